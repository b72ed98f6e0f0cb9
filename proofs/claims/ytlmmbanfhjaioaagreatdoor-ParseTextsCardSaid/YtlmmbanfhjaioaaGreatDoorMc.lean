/- Laid by program out of its parts: SxE, SxH, EvJ, EvK, EvL, EvM. -/
import Derived.Test.YtlmmbanfhjaioaaGreatDoorMb
import Derived.LoopN
import Derived.LoopNIn
import Derived.RangeFuncLeaves
import Derived.RangeFuncRecord
import Derived.OrdersIn
import Derived.Conc.LoneSelect
import Derived.RecoverIn
noncomputable section
set_option linter.unusedVariables false
set_option linter.unusedSimpArgs false
section
/- The symbolic layer, part E: stores into rows, append. -/
namespace Go.Ev
def Ot (size:Nat) (l:List AV):Bool:=cond (Nat.beq l.length size) (l.all AV.one) false
def Ds (size k:Nat) (g:Nat->List AV):Bool:=decide (∀i,i<k->Ot size (g i)=true)
theorem Lc {size k:Nat} {g:Nat->List AV} (h:∀i,i<k->Ot size (g i)=true):Ds size k g=true:=by unfold Ds;simpa using h
def VT (ρ:Af) (size k:Nat) (g:Nat->List AV) (vs:List Value):Prop:=vs.length=k*size/\∀i,i<k->∀j a,j<size->(g i)[j]? =some a->∃v,vs[i*size+j]? =some v/\VR ρ a v
theorem Acd {p k size:Nat} (q:0<size) (y:p<k*size):p/size<k/\p %size<size/\p/size*size+p %size=p:=by refine⟨Nat.div_lt_of_lt_mul (by rwa[Nat.mul_comm]),Nat.mod_lt _ q,?_⟩;rw[Nat.mul_comm];exact Nat.div_add_mod p size
theorem AjR {ρ:Af} {size:Nat} {l:List AV} {vs:List Value} (h:Ot size l=true) (hv:AF ρ l vs):vs.length=size/\∀v∈vs,v.oneCell'=true:=by unfold Ot at h;obtain⟨q,y⟩:=A4 h;rw[Nat.beq_eq]at q;exact⟨by rw[<-hv.length,q],VZ hv y⟩
theorem Abu {ρ:Af} {size k:Nat} {g:Nat->List AV} {cell:Nat->Option Value} (K:0<size) (E:Ds size k g=true) (h:∀i,i<k->∃vs,AF ρ (g i) vs/\∀j v,vs[j]? =some v->cell (i*size+j)=some v): ∃vs,VT ρ size k g vs/\(∀v∈vs,v.oneCell'=true)/\∀j v,vs[j]? =some v->cell j=some v:=by
 classical
 unfold Ds at E;simp only[decide_eq_true_eq]at E;have hc:∀p,∃v,p<k*size->cell p=some v/\v.oneCell'=true/\∀a,(g (p/size))[p %size]? =some a->VR ρ a v:=λp=>by
  by_cases hp:p<k*size
  ·obtain⟨L,V,O⟩:=Acd K hp;obtain⟨vs,hv,B⟩:=h _ L;obtain⟨U,M⟩:=AjR (E _ L) hv;have q:p %size<vs.length:=by omega
   refine⟨vs[p %size],λ_=>⟨?_,M _ (List.getElem_mem q),λa J=>hv.Tq J (List.getElem?_eq_getElem q)⟩⟩;have:=B (p %size) _ (List.getElem?_eq_getElem q);rwa[O]at this
  ·exact⟨undef,λh=>absurd h hp⟩
 refine⟨(List.range (k*size)).map λp=>Classical.choose (hc p),⟨by simp,λi hi j a y J=>?_⟩,λv hv=>?_,λj v y=>?_⟩
 ·have q:i*size+j<k*size:=by have:(i+1)*size<=k*size:=Nat.mul_le_mul_right _ hi;rw[Nat.add_mul]at this;omega
  refine⟨Classical.choose (hc (i*size+j)),by rw[List.getElem?_map,List.getElem?_range q];rfl,?_⟩;refine(Classical.choose_spec (hc (i*size+j)) q).2.2 a ?_;have S:(i*size+j)/size=i:=by rw[Nat.mul_comm,Nat.mul_add_div K,Nat.div_eq_of_lt y,Nat.add_zero]
  have R:(i*size+j)%size=j:=by rw[Nat.mul_comm,Nat.mul_add_mod,Nat.mod_eq_of_lt y]
  rw[S,R];exact J
 ·obtain⟨p,hp,rfl⟩:=List.mem_map.1 hv;exact(Classical.choose_spec (hc p) (List.mem_range.1 hp)).2.1
 ·rw[List.getElem?_map]at y;cases C:(List.range (k*size))[j]? with
  |none=>rw[C]at y;cases y
  |some p=>rw[C]at y;injection y with y;subst y;obtain⟨q,rfl⟩:=List.getElem?_eq_some_iff.1 C;simp only[List.length_range]at q;have:=(Classical.choose_spec (hc j) q).1;simpa using this
def chunk (size k:Nat) (l:List AV):Nat->List AV:=match k with
 |1=>λ_=>l
 |_=>λi=>(l.drop (i*size)).take size
def XN (H:Tr Ac) (size:Nat) (x:AV):Option (Bool×Nat×(Nat->List AV)):=
 match x with
 |.bv l=>gd (Nat.beq size 1) (some (true,l.length,HW l))
 |.bs l=>gd (Nat.beq size 1) (some (true,l.length,HW l))
 |.str m n=>gd (Nat.beq size 1) (some (true,(BC m n).length,HW (BC m n)))
 |.vec e k g=>gd (Nat.beq e size) (some (Ds size k g,k,g))
 |.AJ id k e=>gd (Nat.beq e size) (ob (H.get id) λo=>match o with
  |.cells _ c z N _=>match c,z with
   |.leaf,.rows q f=>gd (Nat.beq q size) (some (cond (Nat.ble (k*size) N) (Ds size k f) false,k,f))
   |_,_=>none
  |_=>none)
 |.As=>some (true,0,λ_=>[])
 |.sle _=>some (true,0,λ_=>[])
 |.sl id off k _=>ob (Fa H id off (k*size)) λl=>gd (l.all AV.one) (some (true,k,chunk size k l))
 |.Bw id off k _=>ob (Fa H id off (k*size)) λl=>gd (l.all AV.one) (some (true,k,chunk size k l))
 |_=>none
def SE (P:Program) (ρ:Af) (w:World) (size k:Nat) (g:Nat->List AV) (u:Value):Prop:=∃vs:List Value,VT ρ size k g vs/\(∀v∈vs,v.oneCell'=true)/\∀w':World,(∀a,w'.cell? a=w.cell? a)->(Builtin.lenOf u).run P w'=.ok k w'/\(Builtin.firstCells size k u).run P w'=.ok vs.toArray w'
theorem vQ {ρ:Af} {size k:Nat} {l:List AV} {vs:List Value} (hv:AF ρ l vs) (y:vs.length=k*size):VT ρ size k (chunk size k l) vs:=by
 refine⟨y,λi hi j a B q=>?_⟩;have key:l[i*size+j]? =some a:=by
  unfold chunk at q;split at q
  ·have:i=0:=by omega
   subst this;simpa using q
  ·rw[List.getElem?_take,if_pos B,List.getElem?_drop]at q;exact q
 exact hv.get _ _ key
theorem fR {P:Program} {ρ:Af} {w:World} {size k:Nat} {g:Nat->List AV} {ad:Addr} {cap:Nat} {vs:List Value} (q:VT ρ size k g vs) (B:∀v∈vs,v.oneCell'=true) (hc:∀j v,vs[j]? =some v->w.cell? (ad.add j)=some v):SE P ρ w size k g (.slice (some ad) k cap):=by refine⟨vs,q,B,λw' y=>⟨by simp[Builtin.lenOf],?_⟩⟩;have:=run_loadCells_list (P:=P) w' ad vs (λj v C=>by rw[y];exact hc j v C);rw[q.1]at this;simp[Builtin.firstCells,this]
theorem fQ {P:Program} {ρ:Af} {w:World} {size:Nat} {g:Nat->List AV} {base:Option Addr} {cap:Nat}:SE P ρ w size 0 g (.slice base 0 cap):=by
 refine⟨[],⟨by simp,λi hi=>by omega⟩,by simp,λw' y=>⟨by simp[Builtin.lenOf],?_⟩⟩;cases base with
 |none=>simp[Builtin.firstCells]
 |some ad=>have:=run_loadCells_list (P:=P) w' ad [] (λj v q=>by simp at q);simpa[Builtin.firstCells]using this
theorem AdN (l:List UInt8):Ds 1 l.length (HW l)=true:=Lc λ_ _=>rfl
theorem Ace {P:Program} {ρ:Af} {w:World} (l:List UInt8):SE P ρ w 1 l.length (HW l) (.string ⟨l.toArray⟩):=by
 have y:(ByteArray.mk l.toArray).size=l.length:=by show l.toArray.size=_;simp
 refine⟨l.map λb=>.int .u8 (b.toNat:Int),⟨by simp,λi hi j a B q=>?_⟩,λv hv=>?_,λw' _=>⟨by simp only[Builtin.lenOf,Sem.run_pure,y],?_⟩⟩
 ·have:j=0:=by omega
  subst this;injection q with q;subst q;refine⟨_,?_,.int _ _⟩;simp only[Nat.mul_one,Nat.add_zero,List.getElem?_map,List.getElem?_eq_getElem hi,Option.map_some,List.getD,Option.getD_some]
 ·obtain⟨b,_,rfl⟩:=List.mem_map.1 hv;rfl
 ·simp only[Builtin.firstCells,Sem.run_pure];congr 1;apply Array.ext';rw[Array.toList_map,Lib.extract_data];simp
theorem AbP {P:Program} {E:Env} {F:Nat->Option Obj} {nx:Nat} {ρ:Af} {w:World} {H:Tr Ac} (r:Rel E F nx ρ H.get w) {size k:Nat} {g:Nat->List AV} {x:AV} {u:Value} (W:0<size) (L:VR ρ x u) (B:XN H size x=some (true,k,g)):SE P ρ w size k g u:=by
 have C:∀(Ar n:Nat) (f:Nat->List AV),mJ x=some (Ar,n,f)->Ar=size->Ds size n f=true->SE P ρ w size n f u:=by
  intro Ar n f he hz hg;subst hz;obtain⟨⟨base,cap,hu,_⟩,y⟩:=ZP L he;by_cases hn:n=0
  ·subst hn;rw[hu];exact fQ
  ·obtain⟨b,o,ab,cs,el,fz,ad,V,ae,_,_⟩:=y 0 (by omega);obtain⟨vs,J,R,U⟩:=Abu (cell:=λp=>w.cell? ⟨b,o+p,none⟩) W hg λi hi=>by obtain⟨b',o',aa,cs',ah,ag,vs,O,Z,hv,hc⟩:=y i hi;rw[V]at O;injection O with S e2 e3;injection S with S;injection S with S e4 e5;subst S;subst e4;refine⟨vs,hv,λj v M=>?_⟩;have:=fT r Z (hc j v M);rwa[Nat.add_assoc]at this
   rw[V];exact fR J R λj v M=>by rw[Dk];exact U j v M
 unfold XN at B;split at B
 ·obtain⟨hz,q⟩:=AK.1 B;injection q with q;injection q with _ q;injection q with q y;subst q;subst y;rw[Nat.beq_eq]at hz;subst hz;exact C 1 _ _ rfl rfl (AdN _)
 ·obtain⟨hz,q⟩:=AK.1 B;injection q with q;injection q with _ q;injection q with q y;subst q;subst y;rw[Nat.beq_eq]at hz;subst hz;cases L;exact Ace _
 ·obtain⟨hz,q⟩:=AK.1 B;injection q with q;injection q with _ q;injection q with q y;subst q;subst y;rw[Nat.beq_eq]at hz;subst hz;rw[Mq L rfl];exact Ace _
 ·obtain⟨hz,q⟩:=AK.1 B;injection q with q;injection q with hg q;injection q with q y;subst q;subst y;rw[Nat.beq_eq]at hz;exact C _ _ _ rfl hz hg
 ·rename_i id n e;obtain⟨hz,q⟩:=AK.1 B;rw[Nat.beq_eq]at hz;subst hz;obtain⟨o,ho,y⟩:=Ae.1 q;clear B q;split at y
  ·split at y
   ·rename_i e' f;obtain⟨hz,J⟩:=AK.1 y;rw[Nat.beq_eq]at hz;subst hz;obtain⟨S,e2,R⟩:=KW J;injection R with R U;subst R;subst U;rw[Nat.ble_eq]at S;cases L with
    |G5 _ _ _ hn _=>subst hn;exact fQ
    |AJ _ _ _ b hb _ hl=>
     obtain⟨vs,J,R,U⟩:=Abu (ρ:=ρ) (cell:=λp=>w.cell? ⟨b.b,b.ob+p,none⟩) W e2 λi hi=>by refine AF.TP (ρ:=ρ) _ λj a M=>?_;have Am:Ot _ _=true:=(by have:=e2;unfold Ds at this;simp only[decide_eq_true_eq]at this;exact this i hi);unfold Ot at Am;obtain⟨Y,_⟩:=A4 Am;rw[Nat.beq_eq]at Y;have af:=(List.getElem?_eq_some_iff.1 M).1;have hm:=Nat.mul_le_mul_right (f i).length hi;rw[Y,Nat.succ_mul]at hm;exact cell_of r ho hb (by omega) (by rw[FJ,PZ (i:=i) (j:=j) (by omega) _ rfl];exact M)
     exact fR J R λj v M=>by rw[Dk];exact U j v M
   ·cases y
  ·cases y
 ·injection B with q;injection q with _ q;injection q with q y;subst q;subst y;cases L;exact fQ
 ·injection B with q;injection q with _ q;injection q with q y;subst q;subst y;cases L;exact fQ
 ·obtain⟨l,hl,q⟩:=Ae.1 B;obtain⟨K,y⟩:=AK.1 q;injection y with y;injection y with _ y;injection y with y J;subst y;subst J;cases L with
  |sl _ _ _ _ b hb=>obtain⟨vs,q,y,J⟩:=H3 r (HS.refl ρ H) hb hl;exact fR (vQ q y) (VZ q K) J
 ·obtain⟨l,hl,q⟩:=Ae.1 B;obtain⟨K,y⟩:=AK.1 q;injection y with y;injection y with _ y;injection y with y J;subst y;subst J;cases L with
  |Bw _ _ _ _ b hb _ _=>obtain⟨vs,q,y,J⟩:=H3 r (HS.refl ρ H) hb hl;exact fR (vQ q y) (VZ q K) J
 ·cases B
def B0 (n:Nat) (f g:Nat->List AV):Nat->List AV:=λi=>cond (Nat.blt i n) (f i) (g (i-n))
def rj (H:Tr Ac) (el size:Nat) (s:AV):Option (Bool×Nat×(Nat->List AV)×Tr Ac):=
 match s with
 |.AJ id n e=>gd (Nat.beq e size) (ob (H.get id) λo=>match o with
  |.cells q c z N _=>match c,z with
   |.leaf,.rows y f=>gd (Nat.beq y size) (gd (Nat.beq q el) (some (Nat.ble (n*size) N,n,f,H.del id)))
   |_,_=>none
  |_=>none)
 |_=>none
def XK (P:Program) (H:Tr Ac) (ni:Nat) (B:List TypeId) (y:List AV):Option (Bool×AV×Tr Ac):=
 match B,y with
 | [t,tx],[s,x]=>ob (P.underlying t) λd=>match d with
  |.slice el=>ob (P.underlying tx) λC=>gd (fP C) (ob (P.info? el) λi=>ob i.zero λz=>gd (Nat.blt 0 i.size&&Nat.beq z.cells.size i.size) (match s,x with
    |.As,.sl _ _ _ _=>none
    |.As,.Bw _ _ _ _=>none
    |.As,.As=>none
    |.As,.sle _=>none
    |.As,x=>ob (XN H i.size x) λq=>some (cond q.1 (decide (q.2.1<=9223372036854775807/\q.2.1*i.bytes<=140737488355328)) false,.AJ ni q.2.1 i.size,H.set ni (.cells el .leaf (.rows i.size q.2.2) (q.2.1*i.size) true))
    |s,x=>ob (rj H el i.size s) λdst=>ob (XN H i.size x) λq=>some (cond (cond dst.1 q.1 false) (decide (dst.2.1+q.2.1<=9223372036854775807/\(dst.2.1+q.2.1)*i.bytes<=140737488355328)) false,.AJ ni (dst.2.1+q.2.1) i.size,dst.2.2.2.set ni (.cells el .leaf (.rows i.size (B0 dst.2.1 dst.2.2.1 q.2.2)) ((dst.2.1+q.2.1)*i.size) true))))
  |_=>none
 |_,_=>none
theorem r7 {ρ:Af} {b:CM} {size n k el:Nat} {f g:Nat->List AV} {vs:List Value} {cs':Array Value} {fz:Nat×Nat} (O:0<size) (C0:cs'.size=b.ob+b.cap) (J:(n+k)*size<=b.cap) (L:Z6 cs' fz) (y:∀p a,p<n*size->CB.at (.rows size f) p=some a->∃v,cs'[b.ob+p]? =some v/\VR ρ a v) (R:VT ρ size k g vs) (B:∀p v,vs[p]? =some v->cs'[b.ob+(n*size+p)]? =some v): OR ρ b (.cells el .leaf (.rows size (B0 n f g)) ((n+k)*size) true) (.cells cs' el fz):=by
 refine .cells _ _ _ _ true cs' fz C0 J (by simp) L λp a S M=>?_;rw[FJ]at M;obtain⟨h1,W,Z⟩:=Acd O S;have q:((B0 n f g) (p/size))[p %size]? =some a:=M;unfold B0 at q;cases hb:Nat.blt (p/size) n with
 |true=>
  rw[hb,cond_true]at q;rw[Nat.blt_eq]at hb;have E:p<n*size:=by have:(p/size+1)*size<=n*size:=Nat.mul_le_mul_right _ hb;rw[Nat.succ_mul]at this;omega
  exact y p a E q
 |false=>
  rw[hb,cond_false]at q;have K:n<=p/size:=by
   rcases Nat.lt_or_ge (p/size) n with h|h
   ·rw[<-Nat.blt_eq,hb]at h;cases h
   ·exact h
  obtain⟨v,hv,C⟩:=R.2 (p/size-n) (by omega) (p %size) a W q;refine⟨v,?_,C⟩;have V:=B _ v hv;have U:n*size+((p/size-n)*size+p %size)=p:=by have Y:n*size<=p/size*size:=Nat.mul_le_mul_right _ K;rw[Nat.sub_mul];omega
  rwa[U]at V
theorem Aol {P:Program} {w:World} (base:Option Addr) (vs:List Value) (h:vs=[]) (m:Nat):match base with|none=>w=w|some a=>(storeCells (a.add m) vs).run P w=.ok () w:=by subst h;cases base<;>rfl
theorem Aft {P:Program} {w:World} (base:Option Addr) (size:Nat):(Builtin.firstCells size 0 (.slice base 0 0)).run P w=.ok ([]:List Value).toArray w:=by
 cases base with
 |none=>simp[Builtin.firstCells]
 |some a=>have:=run_loadCells_list (P:=P) w a [] (λj v q=>by cases q);simpa[Builtin.firstCells]using this
set_option maxHeartbeats 1000000 in
theorem rf {P:Program} {E:Env} {F:Nat->Option Obj} {nx nx':Nat} {ρ:Af} {w:World} {H H':Tr Ac} (r:Rel E F nx ρ H.get w) {ni:Nat} (O:ρ ni=none) (au:nx<=nx') (aj:ni<nx') {ts:List TypeId} {xs:List AV} {us:List Value} {a:AV} (hx:AF ρ xs us) (ai:XK P H ni ts xs=some (true,a,H')) (ty:TypeId): ∃v w' C,(Builtin.append_ ts.toArray ty us.toArray).run P w=.ok v w'/\Rel E F nx' C H'.get w'/\(ρ.le C/\∀x,x≠ni->C x=ρ x)/\VR C a v:=by
 unfold XK at ai;split at ai
 ·rename_i t tx s x;cases hx with
  |cons _ ao _ _ aJ aW=>cases aW with
   |cons _ ux _ _ aI aU=>
    cases aU;obtain⟨d,hd,W⟩:=Ae.1 ai;clear ai;split at W
    ·rename_i el;obtain⟨dx,av,h2⟩:=Ae.1 W;obtain⟨ar,h3⟩:=AK.1 h2;obtain⟨i,hi,h4⟩:=Ae.1 h3;obtain⟨z,hz,h5⟩:=Ae.1 h4;obtain⟨L,h6⟩:=AK.1 h5;clear W h2 h3 h4 h5;rw[Bool.and_eq_true,Nat.blt_eq,Nat.beq_eq]at L;obtain⟨L,aV⟩:=L;have aH:∀m,(Builtin.zeroCells z.cells m).size=m*i.size:=λm=>by rw[Ab9,aV]
     have ab:∀(base:Option Addr) (k:Nat) (g:Nat->List AV) (H0:Tr Ac),ao=.slice base 0 0->SE P ρ w i.size k g ux->k<=9223372036854775807->k*i.bytes<=140737488355328->(∀j o,H0.get j=some o->H.get j=some o)-> ∀f,∃v w' C,(Builtin.append_ [t,tx].toArray ty [ao,ux].toArray).run P w=.ok v w'/\Rel E F nx' C (H0.set ni (.cells el .leaf (.rows i.size (B0 0 f g)) ((0+k)*i.size) true)).get w'/\(ρ.le C/\∀x,x≠ni->C x=ρ x)/\VR C (.AJ ni (0+k) i.size) v:=by
      intro base k g H0 aB ⟨vs,hr,aw,K⟩ a9 aZ hH f;subst aB;obtain⟨ah,aF⟩:=K w (λ_=>rfl);obtain⟨_,aE⟩:=K w.drew (λ_=>rfl);by_cases hk:k=0
      ·subst hk;have aX:vs=[]:=List.length_eq_zero_iff.1 (by have:=hr.1;simpa using this);have aS:=Aol (P:=P) (w:=w) base vs aX (0*i.size);refine⟨_,w,ρ,SL (base:=base) (len:=0) (cap:=0) (ty:=ty) hd av ar hi ah aF (by omega) aS,?_,⟨Af.le_refl ρ,λ_ _=>rfl⟩,.G5 _ _ _ rfl base⟩;rw[H5];have J:=(r.less (h':=H0.get) hH).Ff au;refine⟨J.tape,J.os,J.output,J.fr,λj o b S hb=>?_,λj o b S hb=>?_,λj j' o o' b b' S aM hb aG=>?_,J.new,λq l hq=>?_,J.bs,J.st,λj o b S hb=>?_,J.sf⟩
       ·by_cases R:j=ni
        ·subst R;rw[O]at hb;cases hb
        ·simp only[R,if_false]at S;exact J.ob j o b S hb
       ·by_cases R:j=ni
        ·subst R;rw[O]at hb;cases hb
        ·simp only[R,if_false]at S;exact J.dj j o b S hb
       ·by_cases R:j=ni
        ·subst R;rw[O]at hb;cases hb
        ·by_cases ay:j'=ni
         ·subst ay;rw[O]at aG;cases aG
         ·simp only[R,ay,if_false]at S aM;exact J.inj j j' o o' b b' S aM hb aG
       ·by_cases aK:q=ni
        ·subst aK;simp at hq
        ·simp only[aK,if_false]at hq;exact J.gl q l hq
       ·by_cases R:j=ni
        ·subst R;rw[O]at hb;cases hb
        ·simp only[R,if_false]at S;exact J.sd j o b S hb
      ·have U:=V2 (base:=base) (len:=0) (cap:=0) (ty:=ty) (olds:=[]) hd av ar hi hz ah (Aft base _) aE (by omega) (by omega) (by simpa using aZ);simp only[List.nil_append]at U;have Z:0+k<=grownCap w (0+k) 0 el:=by simp[grownCap,Question.cut]
       generalize a2:grownCap w (0+k) 0 el=cap at U Z;have ag:(0+k)*i.size<=cap*i.size:=Nat.mul_le_mul_right _ Z;have aq:=hr.1;have y:=Af.Li (ρ:=ρ) O ⟨w.heap.size,0,cap*i.size⟩;have aR:(cap-(0+k))*i.size=cap*i.size-(0+k)*i.size:=Nat.sub_mul _ _ _;have ba:(0+k)*i.size=k*i.size:=by rw[Nat.zero_add]
       have a5:(cap-k)*i.size=cap*i.size-k*i.size:=Nat.sub_mul _ _ _;have ae:=r7 (ρ:=ρ.put ni ⟨w.heap.size,0,cap*i.size⟩) (b:=⟨w.heap.size,0,cap*i.size⟩) (size:=i.size) (n:=0) (k:=k) (el:=el) (f:=f) (g:=g) (vs:=vs) (cs':=vs.toArray++Builtin.zeroCells z.cells (cap-(0+k))) (fz:=(0,0)) L (by simp[aH];omega) ag (.inl rfl) (λp a hp=>by omega) ⟨aq,λq hq j a S ha=>let ⟨v,W,h2⟩:=hr.2 q hq j a S ha;⟨v,W,h2.mono y⟩⟩ (λp v hp=>by have af:=(List.getElem?_eq_some_iff.1 hp).1;simp only[Nat.zero_mul,Nat.zero_add];rw[Array.getElem?_append,if_pos (by simpa using af)];simpa using hp);obtain⟨W,h2⟩:=(r.drew.less (h':=H0.get) hH).alloc O au aj ae;refine⟨_,_,ρ.put ni ⟨w.heap.size,0,cap*i.size⟩,U,by rw[H5];exact W,⟨y,λx hx=>Af.GR hx _⟩,?_⟩;have:=VR.AJ (ρ:=ρ.put ni ⟨w.heap.size,0,cap*i.size⟩) ni (0+k) i.size ⟨w.heap.size,0,cap*i.size⟩ (Af.Fx _ _ _) L ag;simpa[Nat.mul_div_cancel _ L]using this
     have aa:∀V:Bool×Nat×(Nat->List AV),XN H i.size x=some V->s=.As-> some (cond V.1 (decide (V.2.1<=9223372036854775807/\V.2.1*i.bytes<=140737488355328)) false,AV.AJ ni V.2.1 i.size,H.set ni (.cells el .leaf (.rows i.size V.2.2) (V.2.1*i.size) true))=some (true,a,H')-> ∃v w' C,(Builtin.append_ [t,tx].toArray ty [ao,ux].toArray).run P w=.ok v w'/\Rel E F nx' C H'.get w'/\(ρ.le C/\∀x,x≠ni->C x=ρ x)/\VR C a v:=by
      rintro⟨sb,k,g⟩ K hs h7;subst hs;obtain⟨e1,e2,h8⟩:=KW h7;injection h8 with h8 h9;subst h8;subst h9;simp only[decide_eq_true_eq]at e1 e2;subst e1;have aB:ao=.slice none 0 0:=by cases aJ;rfl
      have Am:=AbP (P:=P) r L aI K;have:=ab none k g H aB Am e2.1 e2.2 (λ_ _ h=>h) (λ_=>[]);have hf:B0 0 (λ_=>[]) g=g:=by funext q;rfl
      rw[hf,Nat.zero_add]at this;exact this
     split at h6
     ·cases h6
     ·cases h6
     ·cases h6
     ·cases h6
     ·obtain⟨V,K,h7⟩:=Ae.1 h6;exact aa V K rfl h7
     ·obtain⟨⟨db,n,f,H0⟩,Y,h7⟩:=Ae.1 h6;obtain⟨⟨sb,k,g⟩,K,h8⟩:=Ae.1 h7;obtain⟨e1,e2,h9⟩:=KW h8;injection h9 with h9 a4;subst h9;subst a4;obtain⟨e3,e4⟩:=A4 e1;simp only[decide_eq_true_eq]at e2 e3 e4;subst e3;subst e4;have Am:=AbP (P:=P) r L aI K;clear h6 h7 h8 e1 aa;cases s with
      |AJ id M e=>
       simp only[rj]at Y;obtain⟨aP,W⟩:=AK.1 Y;rw[Nat.beq_eq]at aP;obtain⟨o,ho,h2⟩:=Ae.1 W;clear Y W;split at h2
       ·rename_i ad c0 z0 N op;split at h2
        ·rename_i e' f';obtain⟨aD,h3⟩:=AK.1 h2;obtain⟨aQ,h4⟩:=AK.1 h3;injection h4 with h4;injection h4 with hN h4;injection h4 with h4 h5;injection h5 with h5 h6;subst h4;subst h5;subst h6;rw[Nat.beq_eq]at aD aQ;rw[Nat.ble_eq]at hN;subst aQ;subst aP;cases aJ with
         |G5 _ _ _ hn base=>subst hn;have:=ab base k g (H.del id) rfl Am (by omega) (by simpa using e2.2) (Z9 H id) f';exact this
         |AJ _ _ _ b hb he hl=>
          obtain⟨vs,hr,aw,ak⟩:=Am;obtain⟨ah,aF⟩:=ak w (λ_=>rfl);obtain⟨_,aE⟩:=ak w.drew (λ_=>rfl);obtain⟨oc,aC,ae⟩:=r.ob _ _ b ho hb;cases ae with
          |cells _ _ _ _ _ cs fz C0 hn a8 aO an=>
           have a6:M<=b.cap/i.size:=by rw[Nat.le_div_iff_mul_le he];exact hl
           have a7:(M+k)*i.size=M*i.size+k*i.size:=Nat.add_mul _ _ _;have aq:=hr.1;rcases Nat.lt_or_ge (b.cap/i.size) (M+k)with af|aN
           ·-- a new row
            let olds:List Value:=(List.range (M*i.size)).map λp=>(cs[b.ob+p]?).getD undef;have al:∀p,p<M*i.size->olds[p]? =cs[b.ob+p]?:=λp hp=>by
             have a3:b.ob+p<cs.size:=by omega
             simp only[olds,List.getElem?_map,List.getElem?_range hp,Option.map_some];rw[Array.getElem?_eq_getElem a3];rfl
            have B:olds.length=M*i.size:=by simp[olds]
            have aY:(Builtin.firstCells i.size M (.slice (some ⟨b.b,b.ob,none⟩) M (b.cap/i.size))).run P w.drew=.ok olds.toArray w.drew:=by have:=run_loadCells_list (P:=P) w.drew ⟨b.b,b.ob,none⟩ olds (λj v S=>by have aL:=(List.getElem?_eq_some_iff.1 S).1;rw[B]at aL;rw[al j aL]at S;rw[Dk];show w.cell? _=_;simp[World.cell?,aC,S]);rw[B]at this;simp[Builtin.firstCells,this]
            have U:=V2 (base:=some ⟨b.b,b.ob,none⟩) (ty:=ty) hd av ar hi hz ah aY aE af e2.1 e2.2;have Z:M+k<=grownCap w (M+k) (b.cap/i.size) ad:=by simp[grownCap,Question.cut]
            generalize a2:grownCap w (M+k) (b.cap/i.size) ad=cap at U Z;have ag:(M+k)*i.size<=cap*i.size:=Nat.mul_le_mul_right _ Z;have y:=Af.Li (ρ:=ρ) O ⟨w.heap.size,0,cap*i.size⟩;have aR:(cap-(M+k))*i.size=cap*i.size-(M+k)*i.size:=Nat.sub_mul _ _ _;have ae:=r7 (ρ:=ρ.put ni ⟨w.heap.size,0,cap*i.size⟩) (b:=⟨w.heap.size,0,cap*i.size⟩) (size:=i.size) (n:=M) (k:=k) (el:=ad) (f:=f') (g:=g) (vs:=vs) (cs':=(olds++vs).toArray++Builtin.zeroCells z.cells (cap-(M+k))) (fz:=(0,0)) L (by simp[aH,B];omega) ag (.inl rfl) (λp a hp ha=>by obtain⟨v,hv,aA⟩:=an p a (by omega) (by rw[FJ,aD];exact ha);refine⟨v,?_,aA.mono y⟩;simp only[Nat.zero_add];rw[Array.getElem?_append,if_pos (by simp[B];omega)];rw[List.getElem?_toArray,List.getElem?_append,if_pos (by rw[B];exact hp),al p hp];exact hv) ⟨aq,λq hq j a S ha=>let ⟨v,W,h2⟩:=hr.2 q hq j a S ha;⟨v,W,h2.mono y⟩⟩ (λp v hp=>by have af:=(List.getElem?_eq_some_iff.1 hp).1;simp only[Nat.zero_add];rw[Array.getElem?_append,if_pos (by simp[B];omega)];rw[List.getElem?_toArray,List.getElem?_append,if_neg (by rw[B];omega),B,Nat.add_sub_cancel_left];exact hp);obtain⟨W,h2⟩:=(r.drew.less (h':=(H.del id).get) (Z9 H id)).alloc O au aj ae;refine⟨_,_,ρ.put ni ⟨w.heap.size,0,cap*i.size⟩,U,by rw[H5];exact W,⟨y,λx hx=>Af.GR hx _⟩,?_⟩;have:=VR.AJ (ρ:=ρ.put ni ⟨w.heap.size,0,cap*i.size⟩) ni (M+k) i.size ⟨w.heap.size,0,cap*i.size⟩ (Af.Fx _ _ _) L ag;simpa[Nat.mul_div_cancel _ L]using this
           ·-- room
            have az:(M+k)*i.size<=b.cap:=(Nat.le_div_iff_mul_le he).1 aN;obtain⟨cs',f1,f2,f3⟩:=XJ (P:=P) b.b (b.ob+M*i.size) ad fz vs 0 cs w aC aO (by omega) aw;have y:=Af.Li (ρ:=ρ) O b;have aT:=r7 (ρ:=ρ.put ni b) (b:=b) (size:=i.size) (n:=M) (k:=k) (el:=ad) (f:=f') (g:=g) (vs:=vs) (cs':=cs') (fz:=fz) L (by rw[f2,C0]) az (by rcases aO with hz|hz;exact .inl hz;exact .inr (by omega)) (λp a hp ha=>by obtain⟨v,hv,aA⟩:=an p a (by omega) (by rw[FJ,aD];exact ha);exact⟨v,by rw[f3,if_neg (by omega)];exact hv,aA.mono y⟩) ⟨aq,λq hq j a S ha=>let ⟨v,W,h2⟩:=hr.2 q hq j a S ha;⟨v,W,h2.mono y⟩⟩ (λp v hp=>by have af:=(List.getElem?_eq_some_iff.1 hp).1;rw[f3,if_pos (by omega),<-hp];congr 1;omega);refine⟨.slice (some ⟨b.b,b.ob,none⟩) (M+k) (b.cap/i.size),World.ES w b.b (.cells cs' ad fz),ρ.put ni b,?_,?_,⟨y,λx hx=>Af.GR hx _⟩,?_⟩
            ·refine SL (base:=some ⟨b.b,b.ob,none⟩) (ty:=ty) hd av ar hi ah aF aN ?_;simp only[Dk];exact f1
            ·exact r.rename ho hb O au aj rfl aT (M7 w b.b _ _ aC) rfl rfl rfl
            ·exact .AJ ni (M+k) i.size b (Af.Fx _ _ _) he az
        ·cases h2
       ·cases h2
      |_=>simp only[rj]at Y;cases Y
    ·cases W
 ·cases ai
def LI (f:Nat->List AV) (i j:Nat) (vs:List AV):Nat->List AV:=λk=>cond (Nat.beq k i) (Mp (f i) j vs) (f k)
def sH (P:Program) (H:Tr Ac) (t:TypeId) (x v:AV):Option (Bool×Tr Ac):=
 match x with
 |.Gx id Ar i j=>ob (P.info? t) λy=>gd (Nat.beq v.cells.length y.size&&v.cells.all AV.one&&Nat.ble (j+v.cells.length) Ar&&Nat.blt 0 v.cells.length) (ob (H.get id) λo=>match o with
  |.cells el c z N op=>match c,z with
   |.leaf,.rows q f=>gd (Nat.beq q Ar) (some (cond (Nat.ble (j+v.cells.length) (f i).length) (Nat.ble (i*Ar+j+v.cells.length) N) false,H.set id (.cells el .leaf (.rows Ar (LI f i j v.cells)) N op)))
   |_,_=>none
  |_=>none)
 |_=>none
theorem AnP {P:Program} {E:Env} {F:Nat->Option Obj} {nx:Nat} {ρ:Af} {w:World} {H H':Tr Ac} (r:Rel E F nx ρ H.get w) {t:TypeId} {x v:AV} {u z:Value} (hx:VR ρ x u) (hv:VR ρ v z) (C:sH P H t x v=some (true,H')): ∃w',(Instr.storeAt t u z).run P w=.ok () w'/\Rel E F nx ρ H'.get w':=by
 unfold sH at C;split at C
 ·rename_i id Ar i j;obtain⟨ti,R,Y⟩:=Ae.1 C;obtain⟨hg,W⟩:=AK.1 Y;obtain⟨o,ho,M⟩:=Ae.1 W;clear C Y W;simp only[Bool.and_eq_true,Nat.beq_eq,Nat.ble_eq,Nat.blt_eq]at hg;obtain⟨⟨⟨aq,ah⟩,ao⟩,an⟩:=hg;cases hx with
  |Gx _ _ _ _ b hb=>
  split at M
  ·rename_i el c z0 N op;split at M
   ·rename_i q f;obtain⟨he,L⟩:=AK.1 M;rw[Nat.beq_eq]at he;subst he;injection L with L;injection L with L h5;subst h5;obtain⟨h6,h7⟩:=A4 L;rw[Nat.ble_eq]at h6 h7;have J:=hv.cells;have Z:=J.length;obtain⟨oc,S,ae⟩:=r.ob _ _ b ho hb;cases ae with
    |cells _ _ _ _ _ cs fz C0 hn af U K=>
     obtain⟨cs',f1,f2,f3⟩:=XJ (P:=P) b.b (b.ob+(i*q+j)) el fz z.cells.toList 0 cs w S U (by omega) (VZ J ah);have aj:z.cells.size=ti.size:=by simp at Z;omega
     refine⟨World.ES w b.b (.cells cs' el fz),?_,?_⟩
     ·have ab:z.cells.size=P.cellsOf t:=by simp[Program.cellsOf,R];omega
      simp[Instr.storeAt,Instr.sureAddr,storeVar,run_sizeOf w R,ab,f1]
     ·rw[H5];refine r.put ho hb (.cells _ _ _ _ _ cs' fz (by rw[f2,C0]) hn af (by rcases U with hz|hz;exact .inl hz;exact .inr (by omega)) λp a hp ha=>?_) (M7 w b.b _ _ S) rfl rfl rfl;rw[FJ]at ha;have V:0<q:=by omega
      have ak:p %q<q:=Nat.mod_lt _ V;have ad:p/q*q+p %q=p:=by rw[Nat.mul_comm];exact Nat.div_add_mod p q
      have y:(LI f i j v.cells (p/q))[p %q]? =some a:=ha;have O:(f (p/q))[p %q]? =some a->¬(b.ob+(i*q+j)+0<=b.ob+p/\b.ob+p<b.ob+(i*q+j)+0+z.cells.toList.length)->∃u,cs'[b.ob+p]? =some u/\VR ρ a u:=λY W=>by rw[f3,if_neg W];exact K p a hp (by rw[FJ];exact Y)
      unfold LI at y;cases B:Nat.beq (p/q) i with
      |true=>
       rw[B,cond_true,Acb _ _ _ _ h6]at y;rw[Nat.beq_eq]at B;rw[B]at ad;split at y
       ·rename_i al;obtain⟨u,hu,aa⟩:=J.get _ a y;refine⟨u,?_,aa⟩;rw[f3,if_pos (by omega),<-hu];congr 1;omega
       ·rename_i ai;exact O (by rw[B];exact y) (by omega)
      |false=>
       rw[B,cond_false]at y;have ag:p/q≠i:=λe=>by rw[<-Nat.beq_eq,B]at e;cases e
       refine O y λ⟨h8,h9⟩=>ag ?_;have:p/q=i:=by rw[Nat.div_eq_iff V];have:(i+1)*q=i*q+q:=Nat.succ_mul _ _;omega
       exact this
   ·cases M
  ·cases M
 ·cases C
end Go.Ev
end
section
/- The symbolic layer, part H: what is handed on by content: memory that changes no more. -/
namespace Go.Ev
def O4 (l:List AV):Bool:=match l with
 | [.int .u8 n]=>Bo .u8 n
 |_=>false
def ME (n:Nat) (f:Nat->List AV):Bool:=decide (∀i,i<n->O4 (f i)=true)
theorem Agd {ρ:Af} {l:List AV} {vs:List Value} (h:O4 l=true) (hv:AF ρ l vs):∃n:Int,vs=[.int .u8 n]/\n=((Jn l).toNat:Int):=by
 unfold O4 at h;split at h
 ·rename_i n;have h:0<=n/\n<=255:=bR.1 h;cases hv with
  |cons _ _ _ _ y q=>cases y;cases q;refine⟨n,rfl,?_⟩;simp only[Jn];simp;omega
 ·cases h
theorem sS {ρ:Af} {n:Nat} {f:Nat->List AV} {v:Value} (h:VR ρ (.vec 1 n f) v) (hb:ME n f=true):VR ρ (.bv (Fz n f)) v:=by
 unfold ME at hb;simp only[decide_eq_true_eq]at hb;have y:(Fz n f).length=n:=by simp[Fz]
 cases h with
 |G7 _ _ _ hn base cap=>subst hn;exact .Hz _ (by simp[Fz]) _ _
 |vec _ _ _ b o cap cs el fz g B L q hv hc=>
  have:=VR.bv (ρ:=ρ) (Fz n f) b o cap cs el fz B (by rw[y];exact q) λi hi=>by
   rw[y]at hi;obtain⟨m,K,J⟩:=Agd (hb i hi) (hv i hi);have E:=hc i hi 0 (.int .u8 m) (by rw[K];rfl);have C:(Fz n f).getD i 0=Jn (f i):=by simp[Fz,List.getD,hi]
   rw[C,<-J];simpa using E
  rw[y]at this;exact this
def fB {q:Type} (b:Bool) (k:Bool->q):q:=Bool.rec (motive:=λ_=>q) (k false) (k true) b
theorem my {q:Type} (b:Bool) (k:Bool->q):fB b k=k b:=by cases b<;>rfl
structure FZ where
 id:Nat
 Ar:Nat
 n:Nat
 a:AV
def TB (P:Program) (el:Nat):Bool:=match P.underlying el with
 |some (.int .u8)=>true
 |_=>false
def rY (q:Bool) (Ar n:Nat) (f:Nat->List AV):AV:=cond q (.bv (Fz n f)) (.vec Ar n f)
def Abp (q:Bool) (Ar n:Nat) (f:Nat->List AV):Bool:=cond q (ME n f) (Ds Ar n f)
abbrev FR:=Option (Bool×AV×List FZ×List Nat)
def LW (y:AV->FR) (l:List AV):Option (Bool×List AV×List FZ×List Nat):=List.rec (motive:=λ_=>Option (Bool×List AV×List FZ×List Nat)) (some (true,[],[],[])) (λx _ B=>ob (y x) λr=>ob B λq=>some (cond r.1 q.1 false,r.2.1::q.2.1,r.2.2.1++q.2.2.1,r.2.2.2++q.2.2.2)) l
def JW (P:Program) (H:Tr Ac) (y:AV->FR) (a:AV):FR:=match a with
 |.AJ id n Ar=>ob (H.get id) λo=>match o with
  |.cells el c z N _=>match c,z with
   |.leaf,.rows e f=>gd (Nat.beq e Ar) (fB (cond (Nat.beq Ar 1) (TB P el) false) λu=>some (cond (Nat.ble (n*Ar) N) (Abp u Ar n f) false,rY u Ar n f,[⟨id,Ar,n,rY u Ar n f⟩],[id]))
   |_,_=>none
  |_=>none
 |.sl id off n cap=>gd (cond (Nat.beq off 0) (Nat.ble n cap) false) (ob (H.get id) λo=>match o with
  |.cells el _ _ _ _=>ob (P.info? el) λi=>gd (Nat.blt 0 i.size) (ob (Fa H id 0 (n*i.size)) λl=>gd (l.all AV.one) (fB (cond (Nat.beq i.size 1) (TB P el) false) λu=>cond u (some (l.all λa=>O4 [a],.bv (l.map λa=>Jn [a]),[],[id])) (ob (LW y l) λr=>some (r.1,.vec i.size n (chunk i.size n r.2.1),r.2.2.1,id::r.2.2.2))))
  |_=>none)
 |.Bw id off n Ar=>gd (Nat.beq off 0) (ob (H.get id) λo=>match o with
  |.cells el _ _ _ _=>ob (Fa H id 0 (n*Ar)) λl=>gd (l.all AV.one) (fB (cond (Nat.beq Ar 1) (TB P el) false) λu=>cond u (some (l.all λa=>O4 [a],.bv (l.map λa=>Jn [a]),[],[id])) (ob (LW y l) λr=>some (r.1,.vec Ar n (chunk Ar n r.2.1),r.2.2.1,id::r.2.2.2)))
  |_=>none)
 |.ptr id off=>gd (Nat.beq off 0) (ob (H.get id) λo=>match o with
  |.cells _ _ _ n _=>ob (Fa H id 0 n) λl=>gd (l.all AV.one) (ob (LW y l) λr=>some (r.1,.pv r.2.1,r.2.2.1,id::r.2.2.2))
  |_=>none)
 |.agg l=>ob (LW y l) λr=>some (r.1,.agg r.2.1,r.2.2.1,r.2.2.2)
 |.AL l=>ob (LW y l) λr=>some (r.1,.AL r.2.1,r.2.2.1,r.2.2.2)
 |.iface t v=>ob (y v) λr=>some (r.1,.iface t r.2.1,r.2.2.1,r.2.2.2)
 |.fn (.func g) a c=>ob (LW y a) λr=>ob (LW y c) λq=>some (cond r.1 q.1 false,.fn (.func g) r.2.1 q.2.1,r.2.2.1++q.2.2.1,r.2.2.2++q.2.2.2)
 |.sle _=>some (true,.vec 1 0 λ_=>[],[],[])
 |.bool b=>some (true,.bool b,[],[])
 |.int k n=>some (true,.int k n,[],[])
 |.str m n=>some (true,.str m n,[],[])
 |.bs l=>some (true,.bs l,[],[])
 |.bv l=>some (true,.bv l,[],[])
 |.vec e n f=>some (true,.vec e n f,[],[])
 |.pv l=>some (true,.pv l,[],[])
 |.FN h v z=>some (true,.FN h v z,[],[])
 |.Et=>some (true,.Et,[],[])
 |.As=>some (true,.As,[],[])
 |.EZ=>some (true,.EZ,[],[])
 |.Gr=>some (true,.Gr,[],[])
 |.EF=>some (true,.EF,[],[])
 |_=>none
def xY (P:Program) (H:Tr Ac) (k:Nat):AV->FR:=Nat.rec (motive:=λ_=>AV->FR) (λ_=>none) (λ_ q=>JW P H q) k
def Jr (P:Program) (H:Tr Ac) (a:AV):FR:=xY P H 12 a
def QE (P:Program) (H:Tr Ac) (l:List AV):Option (Bool×List AV×List FZ×List Nat):=LW (Jr P H) l
def CW (H:Tr Ac) (ids:List Nat):Tr Ac:=List.rec (motive:=λ_=>Tr Ac) H (λi _ q=>q.del i) ids
theorem Qu {H:Tr Ac}:∀ {ids:List Nat} {i:Nat} {o:Ac},(CW H ids).get i=some o->H.get i=some o/\i∉ids
 | [],i,o,h=>⟨h,by simp⟩
 |j::ids,i,o,h=>by
  have h':((CW H ids).del j).get i=some o:=h;rw[Tr.H4]at h';split at h'
  ·cases h'
  ·rename_i q;obtain⟨B,y⟩:=Qu h';exact⟨B,by simp[y];exactλe=>q e.symm⟩
open Classical in
def CO (ρ:Af) (w:World) (ids:List Nat):Af:=⟨ρ.nm,λb=>if∃id∈ids,∃q,ρ id=some q/\q.b=b then w.heap[b]? else ρ.st b⟩
def Fb (H:Tr Ac) (ids:List Nat):Prop:=∀id∈ids,∃o,H.get id=some o
theorem AfD {E:Env} {F:Nat->Option Obj} {nx:Nat} {ρ:Af} {w:World} {H:Tr Ac} (r:Rel E F nx ρ H.get w) {ids:List Nat} (hi:Fb H ids) {b:Nat} {o:Obj} (h:ρ.st b=some o):(CO ρ w ids).st b=some o:=by
 show(if _ then _ else _)=_;split
 ·rename_i B;obtain⟨id,q,y,K,J⟩:=B;obtain⟨o',C⟩:=hi id q;have:=r.sd id o' y C K;rw[J,h]at this;cases this
 ·exact h
theorem Kr {E:Env} {F:Nat->Option Obj} {nx:Nat} {ρ:Af} {w:World} {H:Tr Ac} (r:Rel E F nx ρ H.get w) {ids:List Nat} (hi:Fb H ids): RX nx nx ρ (CO ρ w ids)/\Rel E F nx (CO ρ w ids) (CW H ids).get w:=by
 have B:ρ.le (CO ρ w ids):=⟨λ_ _ h=>h,λb o h=>AfD r hi h⟩;refine⟨⟨B,λ_ _=>rfl,Nat.le_refl _⟩,r.tape,r.os,r.output,r.fr,λi o b h hb=>?_,λi o b h hb=>r.dj i o b (Qu h).1 hb,λi j o o' b V h h' hb R e=>r.inj i j o o' b V (Qu h).1 (Qu h').1 hb R e,r.new,λg l h=>r.gl g l (Qu h).1,r.bs,λb o h=>?_,λi o b h hb=>?_,λb o o' S h=>?_⟩
 ·obtain⟨c,C,M⟩:=r.ob i o b (Qu h).1 hb;exact⟨c,C,M.mono B⟩
 ·have h':(if _ then _ else _)=some o:=h;split at h'
  ·exact h'
  ·exact r.st b o h'
 ·obtain⟨C,M⟩:=Qu h;show(if _ then _ else _)=none;rw[if_neg]
  ·exact r.sd i o b C hb
  ·rintro⟨id,q,y,L,K⟩;obtain⟨o',J⟩:=hi id q;have:=r.inj id i o' o y b J C L hb K;subst this;exact M q
 ·have h':(if _ then _ else _)=some o':=h;split at h'
  ·rename_i U;obtain⟨id,q,y,L,K⟩:=U;obtain⟨O,J⟩:=hi id q;have:=r.dj id O y J L;rw[K,S]at this;cases this
  ·exact r.sf b o o' S h'
theorem Tn {ρ:Af} {w:World} {ids:List Nat} {id:Nat} {b:CM} (q:id∈ids) (hb:ρ id=some b):(CO ρ w ids).st b.b=w.heap[b.b]?:=if_pos ⟨id,q,b,hb,rfl⟩
theorem Abs {E:Env} {F:Nat->Option Obj} {nx:Nat} {ρ:Af} {w:World} {H:Tr Ac} (r:Rel E F nx ρ H.get w) {ids:List Nat} (hi:Fb H ids) {id el n Ar N:Nat} {f:Nat->List AV} {op:Bool} (O:id∈ids) (W:H.get id=some (.cells el .leaf (.rows Ar f) N op)) (hN:n*Ar<=N) (J:Ds Ar n f=true) {v:Value} (hv:VR ρ (.AJ id n Ar) v):VR (CO ρ w ids) (.vec Ar n f) v:=by
 have M:=(Kr r hi).1.le;cases hv with
 |G5 _ _ _ hn _=>exact .G7 _ _ _ hn _ _
 |AJ _ _ _ b hb S Z=>
  obtain⟨c,hc,L⟩:=r.ob _ _ b W hb;cases L with
  |cells _ _ _ _ _ cs fz C0 hn aa ad B=>
   have K:(CO ρ w ids).st b.b=some (.cells cs el fz):=(Tn O hb).trans hc;have C:n<=b.cap/Ar:=by rw[Nat.le_div_iff_mul_le S];exact Z
   unfold Ds at J;simp only[decide_eq_true_eq]at J;have y:∀i,∃vs,i<n->AF ρ (f i) vs/\∀j v,vs[j]? =some v->cs[b.ob+i*Ar+j]? =some v:=λi=>by
    by_cases q:i<n
    ·have U:=J i q;unfold Ot at U;obtain⟨h2,_⟩:=A4 U;rw[Nat.beq_eq]at h2;have Y:(i+1)*Ar<=n*Ar:=Nat.mul_le_mul_right _ q;rw[Nat.succ_mul]at Y;obtain⟨vs,h3,h4⟩:=AF.TP (ρ:=ρ) (l:=f i) (λj v=>cs[b.ob+i*Ar+j]? =some v) λj a R=>by have ab:=(List.getElem?_eq_some_iff.1 R).1;obtain⟨v,hv,V⟩:=B (i*Ar+j) a (by omega) (by rw[FJ,PZ (i:=i) (j:=j) (by omega) _ rfl];exact R);exact⟨v,by rw[Nat.add_assoc];exact hv,V⟩
     exact⟨vs,λ_=>⟨h3,h4⟩⟩
    ·exact⟨[],λh=>absurd h q⟩
   exact .vec _ _ _ b.b b.ob _ cs el fz (λi=>Classical.choose (y i)) K S C (λi q=>(Classical.choose_spec (y i) q).1.mono M) (λi q=>(Classical.choose_spec (y i) q).2)
def V7 (size k:Nat) (l:List Value):Nat->List Value:=match k with
 |1=>λ_=>l
 |_=>λi=>(l.drop (i*size)).take size
theorem vR {ρ:Af} {size k:Nat} {l:List AV} {vs:List Value} (h:AF ρ l vs) (i:Nat):AF ρ (chunk size k l i) (V7 size k vs i):=by
 rcases k with _|_|k
 ·exact(h.drop _).take _
 ·exact h
 ·exact(h.drop _).take _
theorem vP {size k i j:Nat} {vs:List Value} {v:Value} (hi:i<k) (h:(V7 size k vs i)[j]? =some v):vs[i*size+j]? =some v:=by
 unfold V7 at h;split at h
 ·have:i=0:=by omega
  subst this;simpa using h
 ·rw[List.getElem?_take]at h;split at h
  ·rw[List.getElem?_drop]at h;exact h
  ·cases h
theorem vN {E:Env} {F:Nat->Option Obj} {nx:Nat} {ρ:Af} {w:World} {H:Tr Ac} (r:Rel E F nx ρ H.get w) {ids:List Nat} (hi:Fb H ids) {id n Ar:Nat} {l:List AV} (L:id∈ids) (S:0<Ar) (R:Fa H id 0 (n*Ar)=some l) {b:CM} (hb:ρ id=some b) {cap:Nat} (y:n<=cap):VR (CO ρ w ids) (.vec Ar n (chunk Ar n l)) (.slice (some ⟨b.b,b.ob,none⟩) n cap):=by
 have K:=(Kr r hi).1.le;obtain⟨vs,Y,h2,W⟩:=H3 r (HS.refl ρ H) hb R;obtain⟨o,U,V⟩:=Ae.1 R;cases o with
 |cells el c z N op=>
  obtain⟨oc,hc,J⟩:=r.ob _ _ b U hb;cases J with
  |cells _ _ _ _ _ cs fz C0 hn Z aa O=>
   have C:(CO ρ w ids).st b.b=some (.cells cs el fz):=(Tn L hb).trans hc;have M:∀j v,vs[j]? =some v->cs[b.ob+j]? =some v:=λj v B=>by have:=W j v B;rw[Dk]at this;simpa[World.cell?,hc]using this
   refine .vec _ _ _ b.b b.ob _ cs el fz (λi=>V7 Ar n vs i) C S y (λi q=>(vR Y i).mono K) λi q j v B=>?_;rw[Nat.add_assoc];exact M _ _ (vP q B)
 |_=>cases V
theorem vO {E:Env} {F:Nat->Option Obj} {nx:Nat} {ρ:Af} {w:World} {H:Tr Ac} (r:Rel E F nx ρ H.get w) {ids:List Nat} (hi:Fb H ids) {id n Ar:Nat} {l:List AV} (L:id∈ids) (U:0<Ar) (S:Fa H id 0 (n*Ar)=some l) {R:List AV} (J:∀vs,AF ρ l vs->AF (CO ρ w ids) R vs) {b:CM} (hb:ρ id=some b) {cap:Nat} (q:n<=cap):VR (CO ρ w ids) (.vec Ar n (chunk Ar n R)) (.slice (some ⟨b.b,b.ob,none⟩) n cap):=by
 obtain⟨vs,Z,h2,Y⟩:=H3 r (HS.refl ρ H) hb S;obtain⟨o,V,W⟩:=Ae.1 S;cases o with
 |cells el c z N op=>
  obtain⟨oc,hc,C⟩:=r.ob _ _ b V hb;cases C with
  |cells _ _ _ _ _ cs fz C0 hn aa ab O=>
   have B:(CO ρ w ids).st b.b=some (.cells cs el fz):=(Tn L hb).trans hc;have M:∀j v,vs[j]? =some v->cs[b.ob+j]? =some v:=λj v y=>by have:=Y j v y;rw[Dk]at this;simpa[World.cell?,hc]using this
   refine .vec _ _ _ b.b b.ob _ cs el fz (λi=>V7 Ar n vs i) B U q (λi _=>vR (J vs Z) i) λi K j v y=>?_;rw[Nat.add_assoc];exact M _ _ (vP K y)
 |_=>cases W
theorem Aec {E:Env} {F:Nat->Option Obj} {nx:Nat} {ρ:Af} {w:World} {H:Tr Ac} (r:Rel E F nx ρ H.get w) {ids:List Nat} (hi:Fb H ids) {id n:Nat} {l:List AV} (J:id∈ids) (M:Fa H id 0 n=some l) {q:List AV} (C:∀vs,AF ρ l vs->AF (CO ρ w ids) q vs) {b:CM} (hb:ρ id=some b):VR (CO ρ w ids) (.pv q) (.pointer (some ⟨b.b,b.ob+0,none⟩)):=by
 obtain⟨vs,V,h2,U⟩:=H3 r (HS.refl ρ H) hb M;obtain⟨o,O,S⟩:=Ae.1 M;cases o with
 |cells el c z N op=>
  obtain⟨Z,hc,B⟩:=r.ob _ _ b O hb;cases B with
  |cells _ _ _ _ _ cs fz C0 hn W Y L=>
   have y:(CO ρ w ids).st b.b=some (.cells cs el fz):=(Tn J hb).trans hc;have K:∀j v,vs[j]? =some v->cs[b.ob+j]? =some v:=λj v R=>by have:=U j v R;rw[Dk]at this;simpa[World.cell?,hc]using this
   exact .pv q vs b.b b.ob cs el fz y (C vs V) K
 |_=>cases S
theorem AcR {ρ:Af} {n:Nat} {l:List AV} {v:Value} (h:VR ρ (.vec 1 n (chunk 1 n l)) v) (E:l.length=n) (hb:(l.all λa=>O4 [a])=true):VR ρ (.bv (l.map λa=>Jn [a])) v:=by
 have hc:∀i,i<n->∃a,l[i]? =some a/\chunk 1 n l i=[a]:=λi hi=>by
  have q:i<l.length:=by omega
  refine⟨l[i],List.getElem?_eq_getElem q,?_⟩;rcases n with _|_|n
  ·omega
  ·have:i=0:=by omega
   subst this;show l=_
   match l,E with
   | [x],_=>rfl
  ·show(l.drop (i*1)).take 1=_;rw[Nat.mul_one,List.drop_eq_getElem_cons q];rfl
 have y:ME n (chunk 1 n l)=true:=by unfold ME;simp only[decide_eq_true_eq];intro i hi;obtain⟨a,C,B⟩:=hc i hi;rw[B];exact List.all_eq_true.1 hb a (List.mem_of_getElem? C)
 have:=sS h y;have J:Fz n (chunk 1 n l)=l.map λa=>Jn [a]:=by
  apply List.ext_getElem?;intro i;unfold Fz;rw[List.getElem?_map,List.getElem?_map];by_cases hi:i<n
  ·obtain⟨a,C,B⟩:=hc i hi;rw[List.getElem?_range hi,C];simp[B]
  ·rw[List.getElem?_eq_none (by simp;omega),List.getElem?_eq_none (by omega)];rfl
 rw[J]at this;exact this
theorem Abq {E:Env} {F:Nat->Option Obj} {nx:Nat} {ρ:Af} {w:World} {H:Tr Ac} (r:Rel E F nx ρ H.get w) {ids:List Nat} (hi:Fb H ids) {id el n Ar N:Nat} {f:Nat->List AV} {op u:Bool} (y:id∈ids) (B:H.get id=some (.cells el .leaf (.rows Ar f) N op)) (J:n*Ar<=N) (hu:u=true->Ar=1) (C:Abp u Ar n f=true) {v:Value} (hv:VR ρ (.AJ id n Ar) v):VR (CO ρ w ids) (rY u Ar n f) v:=by
 cases u with
 |false=>exact Abs r hi y B J C hv
 |true=>
  have:=hu rfl;subst this;have hb:ME n f=true:=C;have q:Ds 1 n f=true:=Lc λi hi=>by
   unfold ME at hb;simp only[decide_eq_true_eq]at hb;have:=hb i hi;unfold O4 at this;split at this
   ·rename_i K;rw[K];rfl
   ·cases this
  exact sS (Abs r hi y B J q hv) hb
def Vu (ρ:Af) (w:World) (H:Tr Ac) (fz:List FZ) (q:List Nat):Prop:=∀z∈fz,z.id∈q/\∀ids,Fb H ids->z.id∈ids->∀v,VR ρ (.AJ z.id z.n z.Ar) v->VR (CO ρ w ids) z.a v
def FS (H:Tr Ac) (ρ:Af) (w:World) (y:AV->FR):Prop:=∀(a B:AV) (fz:List FZ) (q:List Nat),y a=some (true,B,fz,q)-> Fb H q/\Vu ρ w H fz q/\∀ids,Fb H ids->(∀i∈q,i∈ids)->∀v,VR ρ a v->VR (CO ρ w ids) B v
theorem MO {H:Tr Ac} {ρ:Af} {w:World} {B:AV->FR} (E:FS H ρ w B):∀(a L:List AV) (fz:List FZ) (y:List Nat),LW B a=some (true,L,fz,y)-> Fb H y/\Vu ρ w H fz y/\∀ids,Fb H ids->(∀i∈y,i∈ids)->∀v,AF ρ a v->AF (CO ρ w ids) L v
 | [],L,fz,y,h=>by injection (show(some (true,[],[],[]):Option (Bool×List AV×List FZ×List Nat))=_ from h)with h;injection h with _ h;injection h with R h;injection h with O K;subst R;subst O;subst K;exact⟨λi hi=>by simp at hi,λz hz=>by simp at hz,λids _ _ v hv=>by cases hv;exact .nil⟩
 |x::l,L,fz,y,h=>by
  obtain⟨⟨s1,Z,q1,i1⟩,hx,R⟩:=Ae.1 (show(ob (B x) λr=>ob (LW B l) λq=>some (cond r.1 q.1 false,r.2.1::q.2.1,r.2.2.1++q.2.2.1,r.2.2.2++q.2.2.2))=some (true,L,fz,y)from h);obtain⟨⟨s2,l',q2,i2⟩,hl,O⟩:=Ae.1 R;obtain⟨V,U,K⟩:=KW O;injection K with K M;injection M with M S;simp only at V U K M S;subst V;subst U;subst K;subst M;subst S;obtain⟨a1,Y,a3⟩:=E x Z q1 i1 hx;obtain⟨b1,W,b3⟩:=MO E l l' q2 i2 hl;refine⟨λi hi=>?_,λz hz=>?_,λids J C v hv=>?_⟩
  ·rcases List.mem_append.1 hi with h|h
   ·exact a1 i h
   ·exact b1 i h
  ·rcases List.mem_append.1 hz with h|h
   ·exact⟨List.mem_append_left _ (Y z h).1,(Y z h).2⟩
   ·exact⟨List.mem_append_right _ (W z h).1,(W z h).2⟩
  ·cases hv with
   |cons _ u _ us h6 h7=>exact .cons _ _ _ _ (a3 ids J (λi hi=>C i (List.mem_append_left _ hi)) u h6) (b3 ids J (λi hi=>C i (List.mem_append_right _ hi)) us h7)
theorem AfE {P:Program} {E:Env} {F:Nat->Option Obj} {nx:Nat} {ρ:Af} {w:World} {H:Tr Ac} (r:Rel E F nx ρ H.get w) {af:AV->FR} (U:FS H ρ w af):FS H ρ w (JW P H af)
 |.AJ id n Ar,V,fz,J,h=>by
  simp only[JW]at h;obtain⟨o,ho,K⟩:=Ae.1 h;split at K
  ·rename_i el c z N op;split at K
   ·rename_i e f;obtain⟨he,M⟩:=AK.1 K;rw[Nat.beq_eq]at he;subst he;rw[my]at M;obtain⟨e1,e2,S⟩:=KW M;injection S with S Y;injection Y with Y h5;subst S;subst Y;subst h5;rw[Nat.ble_eq]at e1;have hu:(cond (Nat.beq e 1) (TB P el) false)=true->e=1:=λhu=>by obtain⟨K,_⟩:=A4 hu;rwa[Nat.beq_eq]at K
    refine⟨λi hi=>?_,λz hz=>?_,λids C B v hv=>Abq r C (B _ (List.mem_cons_self ..)) ho e1 hu e2 hv⟩
    ·rw[List.mem_singleton]at hi;subst hi;exact⟨_,ho⟩
    ·rw[List.mem_singleton]at hz;subst hz;exact⟨List.mem_cons_self ..,λids C ah v hv=>Abq r C ah ho e1 hu e2 hv⟩
   ·cases K
  ·cases K
 |.sl id off n cap,V,fz,J,h=>by
  simp only[JW]at h;obtain⟨W,K⟩:=AK.1 h;obtain⟨W,ad⟩:=A4 W;rw[Nat.beq_eq]at W;subst W;rw[Nat.ble_eq]at ad;obtain⟨o,ho,M⟩:=Ae.1 K;split at M
  ·rename_i el c z N op;obtain⟨i,hi,S⟩:=Ae.1 M;obtain⟨hs,Y⟩:=AK.1 S;obtain⟨l,hl,h5⟩:=Ae.1 Y;obtain⟨ae,R⟩:=AK.1 h5;rw[Nat.blt_eq]at hs;rw[my]at R;have C:Fb H [id]:=λi hi=>by rw[List.mem_singleton]at hi;subst hi;exact⟨_,ho⟩
   have vec:∀ids,Fb H ids->(∀i∈[id],i∈ids)->∀v,VR ρ (.sl id 0 n cap) v->VR (CO ρ w ids) (.vec i.size n (chunk i.size n l)) v/\l.length=n*i.size:=λids C B v hv=>by
    cases hv with
    |sl _ _ _ _ b hb=>obtain⟨vs,g1,g2,_⟩:=H3 r (HS.refl ρ H) hb hl;exact⟨vN r C (B _ (List.mem_cons_self ..)) hs hl hb ad,by rw[g1.length,g2]⟩
   cases hu:(cond (Nat.beq i.size 1) (TB P el) false)with
   |false=>
    rw[hu,cond_false]at R;obtain⟨⟨s2,l',q2,i2⟩,ab,L⟩:=Ae.1 R;injection L with L;injection L with h8 L;injection L with h9 L;injection L with aa Z;simp only at h8 h9 aa Z;subst h8;subst h9;subst aa;subst Z;obtain⟨b1,b2,b3⟩:=MO U l l' q2 i2 ab;refine⟨λi hi=>?_,λz hz=>⟨List.mem_cons_of_mem _ (b2 z hz).1,(b2 z hz).2⟩,λids O B v hv=>?_⟩
    ·rcases List.mem_cons.1 hi with rfl|hi
     ·exact⟨_,ho⟩
     ·exact b1 i hi
    ·cases hv with
     |sl _ _ _ _ b hb=>exact vO r O (B _ (List.mem_cons_self ..)) hs hl (λvs At=>b3 ids O (λi hi=>B i (List.mem_cons_of_mem _ hi)) vs At) hb ad
   |true=>rw[hu,cond_true]at R;injection R with R;injection R with hb R;injection R with R L;injection L with L h8;subst R;subst L;subst h8;obtain⟨K,_⟩:=A4 hu;rw[Nat.beq_eq]at K;refine⟨C,λz hz=>by simp at hz,λids C B v hv=>?_⟩;obtain⟨g1,g2⟩:=vec ids C B v hv;rw[K]at g1 g2;exact AcR g1 (by omega) hb
  ·cases M
 |.Bw id off n Ar,V,fz,J,h=>by
  simp only[JW]at h;obtain⟨W,K⟩:=AK.1 h;rw[Nat.beq_eq]at W;subst W;obtain⟨o,ho,M⟩:=Ae.1 K;split at M
  ·rename_i el c z N op;obtain⟨l,hl,h5⟩:=Ae.1 M;obtain⟨ae,R⟩:=AK.1 h5;rw[my]at R;have C:Fb H [id]:=λi hi=>by rw[List.mem_singleton]at hi;subst hi;exact⟨_,ho⟩
   have vec:∀ids,Fb H ids->(∀i∈[id],i∈ids)->∀v,VR ρ (.Bw id 0 n Ar) v->VR (CO ρ w ids) (.vec Ar n (chunk Ar n l)) v/\l.length=n*Ar:=λids C B v hv=>by
    cases hv with
    |Bw _ _ _ _ b hb he ag=>obtain⟨vs,g1,g2,_⟩:=H3 r (HS.refl ρ H) hb hl;refine⟨?_,by rw[g1.length,g2]⟩;rw[Nat.add_zero,Nat.sub_zero];exact vN r C (B _ (List.mem_cons_self ..)) he hl hb (by rw[Nat.le_div_iff_mul_le he];omega)
   cases hu:(cond (Nat.beq Ar 1) (TB P el) false)with
   |false=>
    rw[hu,cond_false]at R;obtain⟨⟨s2,l',q2,i2⟩,ab,L⟩:=Ae.1 R;injection L with L;injection L with h8 L;injection L with h9 L;injection L with aa Z;simp only at h8 h9 aa Z;subst h8;subst h9;subst aa;subst Z;obtain⟨b1,b2,b3⟩:=MO U l l' q2 i2 ab;refine⟨λi hi=>?_,λz hz=>⟨List.mem_cons_of_mem _ (b2 z hz).1,(b2 z hz).2⟩,λids O B v hv=>?_⟩
    ·rcases List.mem_cons.1 hi with rfl|hi
     ·exact⟨_,ho⟩
     ·exact b1 i hi
    ·cases hv with
     |Bw _ _ _ _ b hb he ag=>rw[Nat.add_zero,Nat.sub_zero];exact vO r O (B _ (List.mem_cons_self ..)) he hl (λvs At=>b3 ids O (λi hi=>B i (List.mem_cons_of_mem _ hi)) vs At) hb (by rw[Nat.le_div_iff_mul_le he];omega)
   |true=>rw[hu,cond_true]at R;injection R with R;injection R with hb R;injection R with R L;injection L with L h8;subst R;subst L;subst h8;obtain⟨K,_⟩:=A4 hu;rw[Nat.beq_eq]at K;subst K;refine⟨C,λz hz=>by simp at hz,λids C B v hv=>?_⟩;obtain⟨g1,g2⟩:=vec ids C B v hv;exact AcR g1 (by omega) hb
  ·cases M
 |.ptr id off,V,fz,J,h=>by
  simp only[JW]at h;obtain⟨W,K⟩:=AK.1 h;rw[Nat.beq_eq]at W;subst W;obtain⟨o,ho,M⟩:=Ae.1 K;split at M
  ·rename_i el c z n op;obtain⟨l,hl,h5⟩:=Ae.1 M;obtain⟨ae,R⟩:=AK.1 h5;obtain⟨⟨s2,l',q2,i2⟩,ab,L⟩:=Ae.1 R;injection L with L;injection L with h8 L;injection L with h9 L;injection L with aa Z;simp only at h8 h9 aa Z;subst h8;subst h9;subst aa;subst Z;obtain⟨b1,b2,b3⟩:=MO U l l' q2 i2 ab;refine⟨λi hi=>?_,λz hz=>⟨List.mem_cons_of_mem _ (b2 z hz).1,(b2 z hz).2⟩,λids O B v hv=>?_⟩
   ·rcases List.mem_cons.1 hi with rfl|hi
    ·exact⟨_,ho⟩
    ·exact b1 i hi
   ·cases hv with
    |ptr _ _ b hb=>exact Aec r O (B _ (List.mem_cons_self ..)) hl (λvs At=>b3 ids O (λi hi=>B i (List.mem_cons_of_mem _ hi)) vs At) hb
  ·cases M
 |.agg l,V,fz,J,h=>by
  simp only[JW]at h;obtain⟨⟨s,l',q,i⟩,hl,K⟩:=Ae.1 h;injection K with K;injection K with K M;injection M with M S;injection S with S Y;simp only at K M S Y;subst K;subst M;subst S;subst Y;obtain⟨h5,R,L⟩:=MO U l l' q i hl;refine⟨h5,R,λids C B v hv=>?_⟩;cases hv with
  |agg _ vs At=>exact .agg _ _ (L ids C B vs At)
 |.AL l,V,fz,J,h=>by
  simp only[JW]at h;obtain⟨⟨s,l',q,i⟩,hl,K⟩:=Ae.1 h;injection K with K;injection K with K M;injection M with M S;injection S with S Y;simp only at K M S Y;subst K;subst M;subst S;subst Y;obtain⟨h5,R,L⟩:=MO U l l' q i hl;refine⟨h5,R,λids C B v hv=>?_⟩;cases hv with
  |AL _ vs At=>exact .AL _ _ (L ids C B vs At)
 |.iface t x,V,fz,J,h=>by
  simp only[JW]at h;obtain⟨⟨s,x',q,i⟩,hl,K⟩:=Ae.1 h;injection K with K;injection K with K M;injection M with M S;injection S with S Y;simp only at K M S Y;subst K;subst M;subst S;subst Y;obtain⟨h5,R,L⟩:=U x x' q i hl;refine⟨h5,R,λids C B v hv=>?_⟩;cases hv with
  |iface _ _ u hu=>exact .iface _ _ _ (L ids C B u hu)
 |.fn (.func g) x y,V,fz,J,h=>by
  simp only[JW]at h;obtain⟨⟨s1,x',q1,i1⟩,hx,K⟩:=Ae.1 h;obtain⟨⟨s2,y',q2,i2⟩,hy,M⟩:=Ae.1 K;obtain⟨e1,e2,S⟩:=KW M;injection S with S Y;injection Y with Y h5;simp only at e1 e2 S Y h5;subst e1;subst e2;subst S;subst Y;subst h5;obtain⟨a1,a2,a3⟩:=MO U x x' q1 i1 hx;obtain⟨b1,b2,b3⟩:=MO U y y' q2 i2 hy;refine⟨λi hi=>?_,λz hz=>?_,λids C B v hv=>?_⟩
  ·rcases List.mem_append.1 hi with h|h
   ·exact a1 i h
   ·exact b1 i h
  ·rcases List.mem_append.1 hz with h|h
   ·exact⟨List.mem_append_left _ (a2 z h).1,(a2 z h).2⟩
   ·exact⟨List.mem_append_right _ (b2 z h).1,(b2 z h).2⟩
  ·cases hv with
   |fn _ _ _ va vc R L=>exact .fn _ _ _ _ _ (a3 ids C (λi hi=>B i (List.mem_append_left _ hi)) va R) (b3 ids C (λi hi=>B i (List.mem_append_right _ hi)) vc L)
 |.sle id,V,fz,J,h=>by simp only[JW]at h;injection h with h;injection h with _ h;injection h with K h;injection h with M S;subst K;subst M;subst S;exact⟨λi hi=>by simp at hi,λz hz=>by simp at hz,λids _ _ v hv=>by cases hv;exact .G7 _ _ _ rfl _ _⟩
 |.bool _,V,fz,J,h|.int _ _,V,fz,J,h|.str _ _,V,fz,J,h|.bs _,V,fz,J,h|.bv _,V,fz,J,h|.vec _ _ _,V,fz,J,h|.pv _,V,fz,J,h|.FN _ _ _,V,fz,J,h
 |.Et,V,fz,J,h|.As,V,fz,J,h|.EZ,V,fz,J,h|.Gr,V,fz,J,h|.EF,V,fz,J,h=>by simp only[JW]at h;injection h with h;injection h with _ h;injection h with K h;injection h with M S;subst K;subst M;subst S;exact⟨λi hi=>by simp at hi,λz hz=>by simp at hz,λids C _ v hv=>hv.mono (Kr r C).1.le⟩
 |.map _,_,_,_,h|.Dr _,_,_,_,h|.F8 _ _,_,_,_,h|.MH,_,_,_,h|.chan _,_,_,_,h|.Gx _ _ _ _,_,_,_,h=>by simp[JW]at h
 |.fn (.method _) _ _,_,_,_,h|.fn (.methodOf _ _) _ _,_,_,_,h|.fn (.via _ _ _ _) _ _,_,_,_,h|.fn (.yield _) _ _,_,_,_,h=>by simp[JW]at h
theorem QF {P:Program} {E:Env} {F:Nat->Option Obj} {nx:Nat} {ρ:Af} {w:World} {H:Tr Ac} (r:Rel E F nx ρ H.get w):FS H ρ w (Jr P H):=by
 have key:∀k,FS H ρ w (xY P H k):=λk=>by
  induction k with
  |zero=>intro a B fz q h;cases h
  |succ k y=>exact AfE r y
 exact key 12
theorem xX {P:Program} {E:Env} {F:Nat->Option Obj} {nx:Nat} {ρ:Af} {w:World} {H:Tr Ac} (r:Rel E F nx ρ H.get w):∀(a y:List AV) (fz:List FZ) (q:List Nat),QE P H a=some (true,y,fz,q)-> Fb H q/\Vu ρ w H fz q/\∀ids,Fb H ids->(∀i∈q,i∈ids)->∀v,AF ρ a v->AF (CO ρ w ids) y v:=MO (QF r)
def Agj (a:AV):Bool:=match a with
 |.ptr _ _=>true
 |.AJ _ _ _=>true
 |.sl _ _ _ _=>true
 |.Bw _ _ _ _=>true
 |_=>false
def yG (H:Tr Ac) (id:Nat):Bool:=match H.get id with
 |some (.cells _ _ _ n _)=>match Fa H id 0 n with
  |some l=>l.any Agj
  |none=>false
 |_=>false
def rb (P:Program) (H:Tr Ac) (ni:Nat) (y:List TypeId) (xs:List AV):Option (Bool×AV×Tr Ac):=
 match xs with
 | [.AJ a b c,.sl id off k cap]=>cond (yG H id) (ob (Jr P H (.sl id off k cap)) λr=>ob (XK P (CW H r.2.2.2) ni y [.AJ a b c,r.2.1]) λq=>some (cond r.1 q.1 false,q.2.1,q.2.2)) (XK P H ni y [.AJ a b c,.sl id off k cap])
 |xs=>XK P H ni y xs
theorem Ans {P:Program} {E:Env} {F:Nat->Option Obj} {nx nx':Nat} {ρ:Af} {w:World} {H H':Tr Ac} (r:Rel E F nx ρ H.get w) {ni:Nat} (L:ρ ni=none) (K:nx<=nx') (C:ni<nx') {ts:List TypeId} {xs:List AV} {us:List Value} {a:AV} (O:AF ρ xs us) (y:rb P H ni ts xs=some (true,a,H')) (ty:TypeId): ∃v w' B,(Builtin.append_ ts.toArray ty us.toArray).run P w=.ok v w'/\Rel E F nx' B H'.get w'/\(ρ.le B/\∀x,x≠ni->B x=ρ x)/\VR B a v:=by
 unfold rb at y;split at y
 ·rename_i i0 n0 e0 id off k cap;cases hh:yG H id with
  |false=>rw[hh]at y;exact rf r L K C O y ty
  |true=>
   rw[hh,cond_true]at y;obtain⟨⟨b,x',fz,ids⟩,hf,h1⟩:=Ae.1 y;obtain⟨⟨q,av,Hq⟩,hq,h2⟩:=Ae.1 h1;obtain⟨e1,e2,W⟩:=KW h2;injection W with W h4;simp only at e1 e2 W h4;subst e1;subst e2;subst W;subst h4;obtain⟨J,_,S⟩:=QF r _ _ _ _ hf;obtain⟨R,M⟩:=Kr r J;cases O with
   |cons _ u1 _ ab Z V=>cases V with
    |cons _ u2 _ aa Y U=>cases U;obtain⟨v,w',B,g1,g2,g3,g4⟩:=rf M (ni:=ni) L K C (.cons _ _ _ _ (Z.mono R.le) (.cons _ _ _ _ (S ids J (λ_ h=>h) u2 Y) .nil)) hq ty;exact⟨v,w',B,g1,g2,⟨Af.le_trans R.le g3.1,λx O=>g3.2 x O⟩,g4⟩
 ·exact rf r L K C O y ty
def JI (P:Program) (X:Operand->Option AV) (H:Tr Ac) (ni:Nat) (op:Op):Option (Bool×AV×Tr Ac):=
 match op with
 |.store t x v=>ob (X x) λa=>ob (X v) λb=>ob (sH P H t a b) λr=>some (r.1,.AL [],r.2)
 |.call c=>match c.callee with
  |.builtin .append=>ob (F3 X c.args.toList) λq=>rb P H ni c.argTypes.toList q
  |_=>none
 |_=>none
end Go.Ev
end
section
/- The evaluator, part J: operations, regions, code, calls: the definitions. -/
namespace Go.Ev
inductive Qe where
 |mark (id:Nat)
 |call (g:FuncId) (args:List AV)
structure St where
 N:Nat
 T:Tr AV
 H:Tr Ac
 nx:Nat
 ro:Option Nat
 D:List Qe
inductive AX where
 |Cc
 |exit (id:Nat)
 |goto (l:Nat)
 |ret
 |AA (v:AV)
inductive CR where
 |mk (v:AV) (H:Tr Ac) (nx:Nat)
 |AA (v:AV) (H:Tr Ac) (nx:Nat)
 |Dc (g:FuncId) (args:List AV) (H:Tr Ac) (nx:Nat)
inductive MD where
 |ret
 |AA (v:AV)
 |Ka (v:AV)
inductive K4 where
 |fn (f:FuncId) (args:List AV)
 |Dr (id:Nat) (args:List AV)
abbrev DZ:=K4->Tr Ac->Nat->Option CR
def Jq (f:AV) (args:List AV):Option K4:=
 match f with
 |.fn (.func g) first cap=>some (.fn g (first++(args++cap)))
 |.Dr id=>some (.Dr id args)
 |_=>none
def mV (P:Program) (H:Tr Ac) (y:List TypeId) (q:List AV):Option (AV×Tr Ac):=
 match y,q with
 |t::_,[d,s]=>ob (P.underlying t) λB=>match B with
  |.slice el=>ob (P.info? el) λi=>ob (ZW H i.size s) λp=>match d with
   |.sl id off n _=>gd (Nat.ble p.1 n) (ob (Tm H id off p.2) λH'=>fN p.1 λm=>some (.int .i64 (.ofNat m),H'))
   |.Bw id off n _=>gd (Nat.ble p.1 n) (ob (Tm H id off p.2) λH'=>fN p.1 λm=>some (.int .i64 (.ofNat m),H'))
   |.As=>gd (Nat.beq p.1 0) (some (.int .i64 (.ofNat 0),H))
   |_=>none
  |_=>none
 |_,_=>none
def cH (seen:List Nat) (y:List DJ):List DJ:=List.rec (motive:=λ_=>List DJ) [] (λe _ q=>cond (seen.contains e.born) q (e::q)) y
def kW (f:DJ->Bool) (l:List DJ):Bool:=List.rec (motive:=λ_=>Bool) true (λa _ q=>cond (f a) q false) l
def xF (H:Tr Ac) (a:AV) (Ah:Bool):Option (AV×Tr Ac):=
 match a with
 |.ptr id 0=>ob (H.get id) λo=>match o,Ah with
  |.Mo l n pos,true=>cond (Nat.blt pos l) (fN (n/256^pos %256) λc=>gd (Nat.blt c 128) (fN (pos+1) λp=>some (.AL [.bool true,.int .i64 (.ofNat pos),.int .i32 (.ofNat c)],H.set id (.Mo l n p))))
    (some (.AL [.bool false],H))
  |.O6,false=>some (.AL [.bool false],H)
  |.Ix mid since seen last,false=>ob (H.get mid) λm=>match m with
   |.map es q=>gd (cond seen.isEmpty true (cond es.isEmpty true (!kW (λe=>Nat.ble last e.born) es))) (match cH seen es with
    | []=>some (.AL [.bool false],H)
    | [e]=>gd (Nat.blt e.born since) (some (.AL [.bool true,e.key,e.val],H.set id (.Ix mid since (seen++[e.born]) q)))
    |_=>none)
   |_=>none
  |_,_=>none
 |_=>none
def mT (P:Program) (H:Tr Ac) (ni nx:Nat) (t:K4):Option CR:=
 match t with
 | .fn g [.iface ty (.map id)] => ob (P.funcs[g]?) fun fn => gd fn.body.isNone (gd (fn.origin == "") (gd (fn.name == "maps.clone") (ob (H.get id) fun o => match o with
  |.map es clock=>some (.mk (.iface ty (.map ni)) (H.set ni (.map es clock)) nx)
  |_=>none)))
 |_=>none
def Gq (P:Program) (call:DZ) (X:Operand->Option AV) (H:Tr Ac) (ni nx:Nat) (op:Op):Option CR:=
 match op with
 |.store t x v=>ob (X x) λa=>ob (X v) λb=>ob (mq P H t a b) λH'=>some (.mk (.AL []) H' nx)
 |.mapUpdate t m k v=>ob (X m) λa=>ob (X k) λb=>ob (X v) λc=>ob (Tj P H t a b c) λH'=>some (.mk (.AL []) H' nx)
 |.insert t m k v=>ob (X m) λa=>ob (X k) λb=>ob (X v) λc=>ob (Tj P H t a b c) λH'=>some (.mk (.AL []) H' nx)
 |.call c=>match c.callee with
  |.builtin .append=>ob (F3 X c.args.toList) λy=>ob (mN P H ni c.argTypes.toList y) λr=>some (.mk r.1 r.2 nx)
  |.value f=>ob (X f) λf=>ob (F3 X c.args.toList) λy=>ob (Jq f y) λr=>Option.rec (motive:=λ_=>Option CR) (mT P H ni nx r) (λc=>some c) (call r H nx)
  |.builtin .copy=>ob (F3 X c.args.toList) λy=>ob (mV P H c.argTypes.toList y) λr=>some (.mk r.1 r.2 nx)
  |.builtin .panic=>ob (F3 X c.args.toList) λy=>match y with
   |.iface t v::_=>some (.AA (.iface t v) H nx)
   |_=>none
  |_=>none
 |.next x Ah=>ob (X x) λa=>ob (xF H a Ah) λr=>some (.mk r.1 r.2 nx)
 |.range t x=>ob (X x) λa=>ob (P.underlying t) λd=>match d,a with
  |.map _ _,.map id=>ob (H.get id) λo=>match o with
   |.map _ q=>some (.mk (.ptr ni 0) (H.set ni (.Ix id q [] q)) nx)
   |_=>none
  |_,_=>none
 |.convert s d x=>ob (X x) λa=>match a with
  |.sl id off len cap=>gd (Nat.beq s d) (ob (P.underlying d) λB=>match B with
   |.slice e=>ob (P.underlying e) λde=>match de with
    |.int .u8=>ob (H.get id) λo=>match o with
     |.cells _ _ _ _ _=>some (.mk (.sl id off len cap) H nx)
     |_=>none
    |_=>none
   |_=>none)
  |_=>none
 |.panic x=>ob (X x) λa=>match a with
  |.iface t v=>some (.AA (.iface t v) H nx)
  |_=>none
 |.defer c=>match c.callee with
  |.value f=>ob (X f) λf=>ob (F3 X c.args.toList) λy=>ob (Jq f y) λr=>match r with
   |.fn g args=>some (.Dc g args H nx)
   |_=>none
  |_=>none
 |_=>none
def FK (P:Program) (call:DZ) (X:Operand->Option AV) (H:Tr Ac) (ni nx:Nat) (op:Op):Option CR:=Option.rec (motive:=λ_=>Option CR) (Gq P call X H ni nx op) (λr=>cond r.1 (some (.mk r.2.1 r.2.2 nx)) (Gq P call X H ni nx op)) (JI P X H ni op)
theorem AbD {P:Program} {call:DZ} {X:Operand->Option AV} {H:Tr Ac} {ni nx:Nat} {op:Op} {r:AV×Tr Ac} (h:JI P X H ni op=some (true,r)):FK P call X H ni nx op=some (.mk r.1 r.2 nx):=by unfold FK;rw[h];rfl
theorem Ww {P:Program} {call:DZ} {X:Operand->Option AV} {H:Tr Ac} {ni nx:Nat} {op:Op} {r:CR} (h:JI P X H ni op=none) (q:Gq P call X H ni nx op=some r):FK P call X H ni nx op=some r:=by unfold FK;rw[h];exact q
def ML (P:Program) (call:DZ) (X:Operand->Option AV) (H:Tr Ac) (ni nx nx':Nat) (op:Op):Option CR:=Option.rec (motive:=λ_=>Option CR) (Option.rec (motive:=λ_=>Option CR) (FK P call X H ni nx' op) (λp=>some (.mk p.1 (H.set ni p.2) nx')) (EE P X ni op)) (λv=>some (.mk v H nx)) (Dl P H X op)
def EX (ops:Array Oper) (T:Tr AV) (o:Oper):Option Bool:=
 match o.guard with
 |none=>some true
 |some (j,q)=>ob (ops[j]?) λy=>ob y.dst λd=>ob (T.get d) λv=>match v with
  |.bool b=>some (cond b q (!q))
  |_=>some false
def Jp (N:Nat) (T:Tr AV) (dst:Option Tmp) (v:AV):Option (Tr AV):=
 match dst with
 |none=>some T
 |some d=>gd (Nat.blt d N) (some (T.set d v))
inductive uQ where
 |mk (x:AX) (s:St)
def LD:Op->Bool
 |.load _ _=>true
 |.lookup _ _ _ _=>true
 |.convert _ _ _=>true
 |.call _=>true
 |.entry _=>true
 |_=>false
inductive DK where
 |off
 |pure
 |new (o:Ac)
 |Dy
 |dead
 |AA (v:AV) (H:Tr Ac) (nx:Nat)
structure PN where
 p:Nat
 A:Nat
 v:AV
 H:Tr Ac
 nx:Nat
structure IU where
 i:Nat
 o:Oper
 A:Nat
 T:Tr AV
 k:DK
 v:AV
 H:Tr Ac
 cc:Nat
structure DS where
 reads:List IU
 news:List IU
 At:List IU
 T:Tr AV
 H:Tr Ac
 nx:Nat
 cc:Nat
 pn:Option PN
def tb (m i:Nat):Bool:=Nat.beq (Nat.land (Nat.shiftRight m i) 1) 1
def W3 (y:Tr Nat) (p:Nat) (l:List Edge):Nat->Option Nat:=List.rec (motive:=λ_=>Nat->Option Nat) (λm=>some m) (λe _ q m=>cond (Region.binds .any e) (gd (Nat.blt e.on p) (ob (y.get e.on) λb=>fN (Nat.lor (Nat.lor m (2^e.on)) b) q)) (q m)) l
def oW (l:List Oper):Nat->Tr Nat->Option (Tr Nat):=List.rec (motive:=λ_=>Nat->Tr Nat->Option (Tr Nat)) (λ_ y=>some y) (λo _ B p y=>ob (W3 y p o.after.toList 0) λA=>fN (p+1) λq=>B q (y.set p A)) l
def cX (l:List Oper):Nat->Tr Nat->Option (Tr Nat):=List.rec (motive:=λ_=>Nat->Tr Nat->Option (Tr Nat)) (λ_ D=>some D) (λo _ y p D=>fN (p+1) λq=>match o.dst with
   |none=>y q D
   |some d=>gd (D.get d).isNone (y q (D.set d p))) l
def opsL:Op->Option (List Operand)
 |.alloc _=>some []
 |.move x|.assign x|.box _ x|.load _ x|.nilCheck x|.unOp _ _ x|.convert _ _ x|.makeInterface _ x|.fieldAddr _ x _|.field _ x _|.extract x _|.typeAssert x _ _ _|.makeChan _ x|.range _ x|.next x _|.entry x=>some [x]
 |.pick c a b=>some [c,a,b]
 |.build _ q|.buildSlice _ _ q=>some (q.toList.map (·.2))
 |.store _ a v|.binOp _ _ a v _|.makeSlice _ a v|.indexAddr _ a v|.index _ a v|.lookup _ a v _=>some [a,v]
 |.makeFunc _ first captured=>some (first.toList++captured.toList)
 |.makeMap _ r=>some r.toList
 |.slice _ x l h m=>some (x::(l.toList++(h.toList++m.toList)))
 |.mapUpdate _ m k v|.insert _ m k v=>some [m,k,v]
 |.call c=>match c.callee with
  |.value f=>some (f::c.args.toList)
  |.builtin _=>some c.args.toList
  |.invoke _ _=>none
 |_=>none
def WY (D:Tr Nat) (q:Tr Nat) (i A:Nat) (d:Nat):Bool:=Option.rec (motive:=λ_=>Bool) true (λk=>cond (Nat.beq k i) true (cond (tb A k) true (Option.rec (motive:=λ_=>Bool) false (λB=>tb B i) (q.get k)))) (D.get d)
def Fu {α:Type} (f:α->Bool) (l:List α):Bool:=List.rec (motive:=λ_=>Bool) true (λa _ q=>cond (f a) q false) l
def TF (ops:Array Oper) (D q:Tr Nat) (i:Nat) (o:Oper):Bool:=Option.rec (motive:=λ_=>Bool) false (λA=>Option.rec (motive:=λ_=>Bool) false (λl=>
  cond (Fu (λx=>match x with
   |.tmp d=>WY D q i A d
   |_=>true) l) (match o.guard with
    |none=>true
    |some (j,_)=>Option.rec (motive:=λ_=>Bool) true (λy=>match y.dst with
     |none=>true
     |some d=>WY D q i A d) ops[j]?) false) (opsL o.op)) (q.get i)
def oP (ops:Array Oper) (D y:Tr Nat) (l:List Oper):Nat->Bool:=List.rec (motive:=λ_=>Nat->Bool) (λ_=>true) (λo _ q i=>cond (TF ops D y i o) (fN (i+1) q) false) l
def Wc (ops:Array Oper):Option (Tr Nat):=ob (oW ops.toList 0 .leaf) λq=>ob (cX ops.toList 0 .leaf) λD=>gd (oP ops D q ops.toList 0) (some q)
def Hg (At:List IU) (c j:Nat):Bool:=Fu (λh=>cond (Nat.blt h.i c) (!tb h.A j) true) At
def DY (news At:List IU) (A c y:Nat) (H:Tr Ac):Tr Ac:=List.rec (motive:=λ_=>Tr Ac) H (λr _ q=>match r.k with
  |.new o=>cond (tb A r.i) (cond (Hg At c r.i) (fN (y+r.i) λx=>q.set x o) q) q
  |_=>q) news
def Mt (news At:List IU) (n y:Nat) (H:Tr Ac):Tr Ac:=List.rec (motive:=λ_=>Tr Ac) H (λr _ q=>match r.k with
  |.new o=>cond (Hg At n r.i) (fN (y+r.i) λx=>q.set x o) q
  |_=>q) news
def HY (N p:Nat) (o:Oper) (A:Nat) (q:DS) (k:DK) (v:AV) (H:Tr Ac) (nx cc:Nat):Option DS:=ob (Jp N q.T o.dst v) λT=>some (match k with
  |.off=>⟨q.reads,q.news,q.At,T,H,nx,cc,q.pn⟩
  |.pure=>cond (LD o.op) ⟨⟨p,o,A,q.T,.pure,v,H,cc⟩::q.reads,q.news,q.At,T,H,nx,cc,q.pn⟩ ⟨q.reads,q.news,q.At,T,H,nx,cc,q.pn⟩
  |.new b=>⟨q.reads,⟨p,o,A,q.T,.new b,v,H,cc⟩::q.news,q.At,T,H,nx,cc,q.pn⟩
  |.Dy=>⟨q.reads,q.news,⟨p,o,A,q.T,.Dy,v,H,cc⟩::q.At,T,H,nx,cc,q.pn⟩
  |.dead=>⟨q.reads,q.news,q.At,T,H,nx,cc,q.pn⟩
  |.AA y H' nx'=>⟨q.reads,q.news,q.At,T,H,nx,cc,some ⟨p,A,y,H',nx'⟩⟩)
def QP (pn:Option PN) (A:Nat):Bool:=Option.rec (motive:=λ_=>Bool) false (λq=>tb A q.p) pn
def S5 (P:Program) (call:DZ) (ops:Array Oper) (N B:Nat) (E:Tr Nat) (p:Nat) (o:Oper) (y:DS):Option DS:=ob (E.get p) λA=>cond (QP y.pn A) (HY N p o A y .dead (.AL []) y.H y.nx y.cc) <| ob (EX ops y.T o) λC=>cond C (Option.rec (motive:=λ_=>Option DS) (fN (B+p) λni=>Option.rec (motive:=λ_=>Option DS) (gd (Fu (λh=>tb A h.i) y.At) (gd y.pn.isNone <| ob (FK P call (B2 y.T) (DY y.news y.At A p B y.H) ni y.nx o.op) λr=>CR.rec (motive:=λ_=>Option DS) (λv H nx=>fN (p+1) λcc=>HY N p o A y .Dy v H nx cc) (λv H nx=>HY N p o A y (.AA v H nx) (.AL []) y.H y.nx y.cc) (λ_ _ _ _=>none) r)) (λq=>HY N p o A y (.new q.2) q.1 y.H y.nx y.cc) (EE P (B2 y.T) ni o.op)) (λv=>HY N p o A y .pure v y.H y.nx y.cc) (Dl P (DY y.news y.At A p B y.H) (B2 y.T) o.op)) (HY N p o A y .off (.AL []) y.H y.nx y.cc)
def Qy (P:Program) (call:DZ) (ops:Array Oper) (N C:Nat) (J:Tr Nat) (l:List Oper):Nat->DS->Option DS:=List.rec (motive:=λ_=>Nat->DS->Option DS) (λ_ y=>some y) (λo _ E p y=>ob (S5 P call ops N C J p o y) λB=>fN (p+1) λq=>E q B) l
open Classical in
def sJ (a b:AV):Bool:=Cr a b||decide (a=b)
theorem sK {a b:AV}:sJ a b=true↔a=b:=by
 unfold sJ;constructor
 ·intro h;rcases Bool.or_eq_true _ _▸h with h|h
  ·exact SM _ _ h
  ·simpa using h
 ·intro h;simp[h]
def XD (P:Program) (q:DS) (y:Nat) (r:IU) (c:Nat) (H:Tr Ac):Bool:=cond (Nat.beq c r.cc) true (cond (Hg q.At c r.i) (cond (Fu (λh=>cond (tb r.A h.i) (Nat.blt h.i c) true) q.At) (Option.rec (motive:=λ_=>Bool) false (λv=>sJ v r.v) (Dl P (DY q.news q.At r.A c y H) (B2 r.T) r.o.op)) true) true)
def cd (q:DS) (y:Nat) (r:IU) (c:Nat) (H:Tr Ac):Bool:=cond (Hg q.At c r.i) (fN (y+r.i) λx=>(H.get x).isNone) true
def SS (P:Program) (q:DS) (y:Nat) (c:Nat) (H:Tr Ac):Bool:=cond (Fu (λr=>XD P q y r c H) q.reads) (Fu (λr=>cd q y r c H) q.news) false
def ZH (P:Program) (q:DS) (y:Nat) (B:Tr Ac):Bool:=cond (SS P q y 0 B) (Fu (λh=>SS P q y h.cc h.H) q.At) false
def Ko (A:Nat) (l:List Oper):Nat->Tr AV->Tr AV:=List.rec (motive:=λ_=>Nat->Tr AV->Tr AV) (λ_ T=>T) (λo _ y k T=>fN (k+1) λq=>match o.dst with
   |none=>y q T
   |some d=>cond (tb A k) (y q T) (y q (T.del d))) l
def mX (P:Program) (call:DZ) (ops:Array Oper) (s:St):Option uQ:=ob (Wc ops) λC=>fN ops.size λn=>fN (s.nx+n) λB=>ob (Qy P call ops s.N s.nx C ops.toList 0 ⟨[],[],[],s.T,s.H,B,0,none⟩) λy=>
  gd (ZH P y s.nx s.H) (Option.rec (motive:=λ_=>Option uQ) (some (.mk .Cc ⟨s.N,y.T,Mt y.news y.At n s.nx y.H,y.nx,s.ro,s.D⟩)) (λq=>some (.mk (.AA q.v) ⟨s.N,Ko q.A ops.toList 0 y.T,q.H,q.nx,s.ro,s.D⟩)) y.pn)
def cK (H:Tr Ac) (id:Nat) (f:LoopState->Option Code->Option (LoopState×Option Code)):Option (Tr Ac):=ob (H.get id) λo=>match o with
  |.loop st Dp T N y q body d=>ob (f st Dp) λp=>some (H.set id (.loop p.1 p.2 T N y q body d))
  |_=>none
def nz (c:Option Code):Option AX:=
 match c with
 |none=>some .Cc
 |some .ret=>some .ret
 |some (.exit id)=>some (.exit id)
 |some (.goto l)=>some (.goto l)
 |_=>none
def AX.jump:AX->Option Code
 |.Cc=>none
 |.exit id=>some (.exit id)
 |.goto l=>some (.goto l)
 |.ret=>some .ret
 |.AA _=>none
def AX.calm:AX->Bool
 |.AA _=>false
 |_=>true
def sP (q:List Tmp) (args:List AV):Nat->Tr AV->Option (Tr AV):=List.rec (motive:=λ_=>List AV->Nat->Tr AV->Option (Tr AV)) (λargs _ T=>match args with
   | []=>some T
   |_=>none)
  (λp _ y args N T=>match args with
   |a::args=>gd (Nat.blt p N) (y args N (T.set p a))
   | []=>none) q args
def setArgs (l:List AV):Tr AV->Nat->Tr AV:=Qd l
def mn (P:Program) (H:Tr Ac) (T:Tr AV) (r:ResultVar):Option AV:=
 match r with
 |.tmp t=>T.get t
 |.cell a t=>ob (T.get a) λp=>Wg P H t p
def mo (P:Program) (H:Tr Ac) (T:Tr AV) (l:List ResultVar):Option (List AV):=List.rec (motive:=λ_=>Option (List AV)) (some []) (λr _ q=>ob (mn P H T r) λa=>ob q λl=>some (a::l)) l
def Tk (P:Program) (H:Tr Ac) (T:Tr AV) (l:List ResultVar):Option AV:=ob (mo P H T l) λvs=>match vs with
  | [v]=>some v
  |vs=>some (.AL vs)
def U2 (l:List Oper):Option (Option Tmp):=
 match l with
 | [o]=>match o.guard with
  |none=>match o.op with
   |.call c=>match c.callee with
    |.builtin .recover=>some o.dst
    |_=>none
   |_=>none
  |_=>none
 |_=>none
def MD.settle:MD->MD
 |.ret=>.ret
 |.AA v=>.AA v
 |.Ka _=>.ret
inductive LV where
 |mk (m:MD) (H:Tr Ac) (nx:Nat)
end Go.Ev
end
section
/- The evaluator, part K: what operations, regions in the order of their text, and code come to. -/
namespace Go.Ev
def FW (ro:Option Nat):Fence:={Fence.wide with round:=ro}
def MB (ro:Option Nat) (P:Program) (ops:Array Oper) (Q:Exit->Act->World->Prop) (l:List Nat) (a:Act) (w:World):Prop:=∀(b:Frame) (k:List Item) (cs:List Frame),b.roundOf=(FW ro).round->∃e q w',Q e q w'/\ArrivesIn (Machine.fenced P (FW ro)) P (lone (b.atR a (.inRegion ops l::k)) cs w) b k cs e q w'
section
variable {ro:Option Nat} {P:Program} {ops:Array Oper} {Q:Exit->Act->World->Prop} {a:Act} {w:World}
theorem LX (f:FuncId):(FW ro).fn f:=trivial
theorem JX (n:Nat):(FW ro).room n:=by simp[FW,Fence.wide,Fence.room]
theorem Ajk (h:Q .normal a w):MB ro P ops Q [] a w:=λ_ _ _ _=>
 ⟨.normal,a,w,h,.one (fenced_calm (n:=0) (LX _) (JX _) rfl) stepR_region_end⟩
theorem Ajm {id:Nat} (h:MB ro P ops Q (List.range ops.size) a w):(Code.region id ops false).wpIn (FW ro) 0 P Q a w:=λb k cs y _ _=>
 let ⟨e,B,w',q,r⟩:=h b k cs y
 ⟨e,B,w',q,.of_steps (.one (fenced_calm (n:=0) (LX _) (JX _) rfl) stepR_region) r⟩
theorem Ajl {i:Nat} {rest:List Nat} {o:Oper} (y:ops[i]? =some o) (E:¬Region.wanted o (yielded ops a.tmps)=true) (C:∀f,o.about P w a.eval=some f->(FW ro).fn f) (h:MB ro P ops Q rest (a.put o.dst undef) w):MB ro P ops Q (i::rest) a w:=by intro b k cs B;obtain⟨e,K,w',q,r⟩:=h b k cs B;refine⟨e,K,w',q,.of_steps (.one (fenced_oper (n:=0) (LX _) (JX _) y C) ?_) r⟩;have J:=stepR_op_skip (P:=P) (b:=b) (a:=a) (k:=k) (cs:=cs) (w:=w) (ops:=ops) (i:=i) (rest:=rest) (by simp[y];simpa using E);rwa[y]at J
theorem AaW {i:Nat} {rest:List Nat} {o:Oper} (E:ops[i]? =some o) {v:Value} {w':World} (C:∀f,o.about P w a.eval=some f->(FW ro).fn f) (J:∀(b:Frame) (k:List Item) (cs:List Frame),b.roundOf=(FW ro).round->step P (lone (b.atR a (.inRegion ops (i::rest)::k)) cs w)=.next (lone ((b.atR a (.inRegion ops (i::rest)::k)).finish v) cs w')) (h:MB ro P ops Q rest (a.put o.dst v) w'):MB ro P ops Q (i::rest) a w:=by intro b k cs y;obtain⟨e,K,B,q,r⟩:=h b k cs y;refine⟨e,K,B,q,.of_steps (.one (fenced_oper (n:=0) (LX _) (JX _) E C) ?_) r⟩;rw[J b k cs y,Frame.finish_atR,E];rfl
theorem Ajn {i:Nat} {rest:List Nat} {o:Oper} (O:ops[i]? =some o) (hw:Region.wanted o (yielded ops a.tmps)=true) (h:o.wpIn (FW ro) 0 P a w (MB ro P ops Q rest) Q):MB ro P ops Q (i::rest) a w:=by
 obtain⟨L,h⟩:=h;have W:∀(b:Frame) (k:List Item) (cs:List Frame),b.roundOf=(FW ro).round->stepG P true {frame:=b.atR a (.inRegion ops (i::rest)::k),callers:=cs,status:=.running,dying:=none} w= stepG.apply P true (b.atR a (.inRegion ops (i::rest)::k)) cs none (o.semAt (FW ro).round a.eval) w:=λb k cs C=>by rw[stepGR_op (P:=P) O hw,C]
 generalize(o.semAt (FW ro).round a.eval)=ab at h W;generalize E:ab.run P w=res at h;cases res with
 |halt y w'=>
  cases y with
  |panic v=>intro b k cs C;refine⟨_,a,w',h,.inRegion ops (i::rest)::k,.one (fenced_oper (n:=0) (LX _) (JX _) O L) (step_lone_go ?_)⟩;rw[W b k cs C,<-Frame.raise_atR];simp[stepG.apply,E]
  |_=>exact h.elim
 |ok y w'=>
  cases y with
  |value v=>exact AaW O L (λb k cs C=>step_lone_go (by rw[W b k cs C];simp[stepG.apply,E])) h
  |skip=>exact AaW O L (λb k cs C=>step_lone_go (by rw[W b k cs C];simp[stepG.apply,E])) h
  |defer d=>intro b k cs C;obtain⟨e,Z,M,q,r⟩:=h b k cs C;refine⟨e,Z,M,q,.of_steps (.one (fenced_oper (n:=0) (LX _) (JX _) O L) (step_lone_go ?_)) r⟩;have aa:=Frame.finish_atR b {a with defers:=d::a.defers} ops i rest k undef;rw[O]at aa;rw[W b k cs C];simp only[stepG.apply,Sem.runT_eq,E,GStep.bare_after];exact congrArg (λfr=>GStep.go {frame:=fr,callers:=cs,status:=.running,dying:=none} w') aa
  |enter f args=>
   intro b k cs C;obtain⟨_,hF,hc⟩:=h;obtain⟨e,M,fr,U,J,ad,V⟩:=hc (b.atR a (.inRegion ops (i::rest)::k)::cs) (JX _);have B:step P (lone (b.atR a (.inRegion ops (i::rest)::k)) cs w)=.next (lone (Frame.enter P f args .normal) (b.atR a (.inRegion ops (i::rest)::k)::cs) w'):=
    step_lone_go (by rw[W b k cs C];simp[stepG.apply,E,Frame.atR])
   have Y:=fenced_oper (F:=FW ro) (P:=P) (b:=b) (k:=k) (cs:=cs) (w:=w) (rest:=rest) (n:=0) (LX _) (JX _) O L;cases e with
   |returned v=>have hl:=fenced_leaving (F:=FW ro) (P:=P) (n:=0) (cs:=b.atR a (.inRegion ops (i::rest)::k)::cs) (LX fr.fn) (JX _) V;obtain⟨e,Z,K,q,r⟩:=U b k cs C;refine⟨e,Z,K,q,.of_steps (.head Y B (StepsIn.trans J (.one hl ?_))) r⟩;rw[step_leave_returned V,Frame.finish_atR,O];rfl
   |panicked chain=>have hl:=fenced_leaving (F:=FW ro) (P:=P) (n:=0) (cs:=b.atR a (.inRegion ops (i::rest)::k)::cs) (LX fr.fn) (JX _) V;refine⟨.panic chain,a,M,U,.inRegion ops (i::rest)::k,.head Y B (StepsIn.trans J (.one hl ?_))⟩;rw[<-Frame.raise_atR];exact step_leave_panicked V
   |outgrown=>obtain⟨S,R,hq⟩:=U;exact⟨.outgrown,S,R,hq,.inr (Outgrown.of_steps (.one B) J)⟩
  |round l f tmps assign body=>
   intro b k cs C;obtain⟨_,_,hc⟩:=h;obtain⟨e,M,U,J⟩:=hc (b.atR a (.inRegion ops (i::rest)::k)) cs (JX _);have B:step P (lone (b.atR a (.inRegion ops (i::rest)::k)) cs w)=.next (lone (Frame.round l f tmps assign body .normal) (b.atR a (.inRegion ops (i::rest)::k)::cs) w'):=
    step_lone_go (by rw[W b k cs C];simp[stepG.apply,E,Frame.atR])
   have Y:=fenced_oper (F:=FW ro) (P:=P) (b:=b) (k:=k) (cs:=cs) (w:=w) (rest:=rest) (n:=0) (LX _) (JX _) O L;cases e with
   |returned v=>
    obtain⟨e,Z,K,q,r⟩:=U b k cs C;refine⟨e,Z,K,q,.of_steps (.head Y B ?_) r⟩;have hf:(b.atR a (.inRegion ops (i::rest)::k)).finish v=b.atR (a.put o.dst v) (.inRegion ops rest::k):=by rw[Frame.finish_atR,O];rfl
    rw[<-hf];exact J
   |panicked chain=>refine⟨.panic chain,a,M,U,.inRegion ops (i::rest)::k,.head Y B ?_⟩;rw[<-Frame.raise_atR];exact J
   |outgrown=>obtain⟨S,R,hq⟩:=U;exact⟨.outgrown,S,R,hq,.inr (Outgrown.of_steps (.one B) J)⟩
  |row row args=>
   intro b k cs C;obtain⟨_,hc⟩:=h;obtain⟨v,M,U,J⟩:=hc (b.atR a (.inRegion ops (i::rest)::k)) cs (JX _);have B:step P (lone (b.atR a (.inRegion ops (i::rest)::k)) cs w)=.next (lone (Frame.ofRow P row args .normal) (b.atR a (.inRegion ops (i::rest)::k)::cs) w'):=
    step_lone_go (by rw[W b k cs C];simp[stepG.apply,E,Frame.atR])
   have Y:=fenced_oper (F:=FW ro) (P:=P) (b:=b) (k:=k) (cs:=cs) (w:=w) (rest:=rest) (n:=0) (LX _) (JX _) O L;obtain⟨e,Z,K,q,r⟩:=U b k cs C;refine⟨e,Z,K,q,.of_steps (.head Y B ?_) r⟩;have hf:(b.atR a (.inRegion ops (i::rest)::k)).finish v=b.atR (a.put o.dst v) (.inRegion ops rest::k):=by rw[Frame.finish_atR,O];rfl
   rw[<-hf];exact J
  |_=>exact h.elim
end
def Ends (E:Env) (F:Nat->Option Obj) (nx:Nat) (ρ:Af) (v:AV) (H':Tr Ac) (nx':Nat) (e:Ending) (w':World):Prop:=∃u q,e=.returned u/\RX nx nx' ρ q/\Rel E F nx' q H'.get w'/\VR q v u
def LK (P:Program) (t:K4) (w:World) (ρ:Af) (R:Ending->World->Prop):Prop:=
 match t with
 | .fn f args => (∃ fn c, P.funcs[f]? = some fn ∧ (fn.name == "runtime.NumGoroutine") = false ∧ fn.body = some c) ∧ ∀ vs, AF ρ args vs → CallsIn (FW none) 0 P f vs.toArray w R
 |.Dr id args=>∀vs b,AF ρ args vs->ρ id=some b->∃fn tmps asg body,(Instr.yield b.b vs.toArray).run P w=.ok (.round b.b fn tmps asg body) w/\RoundIn (FW none) 0 P b.b fn tmps asg body w R
def fresh (u:Value):List PanicEntry:=[{v:=u,recovered:=false}]
def Nv (E:Env) (F:Nat->Option Obj) (nx:Nat) (ρ:Af) (r:CR) (e:Ending) (w':World):Prop:=
 match r with
 |.mk v H' nx'=>Ends E F nx ρ v H' nx' e w'
 |.AA v H' nx'=>∃u q,e=.panicked (fresh u)/\RX nx nx' ρ q/\Rel E F nx' q H'.get w'/\VR q v u
 |.Dc _ _ _ _=>False
def K3 (P:Program) (call:DZ):Prop:=∀t H nx r,call t H nx=some r->∀E F ρ w,Rel E F nx ρ H.get w->LK P t w ρ (Nv E F nx ρ r)
def Yh (E:Env) (F:Nat->Option Obj) (ni nx:Nat) (ρ:Af) (o:Oper) (a:Act) (w:World) (ro:Option Nat) (next:Act->World->Prop) (Q:Exit->Act->World->Prop) (r:CR):Prop:=
 match r with
 |.mk v H' nx'=>∀u q w',RY ni nx nx' ρ q->Rel E F nx' q H'.get w'->VR q v u->next (a.put o.dst u) w'
 |.AA v H' nx'=>∀u q w',RY ni nx nx' ρ q->Rel E F nx' q H'.get w'->VR q v u->Q (.panic (fresh u)) a w'
 |.Dc g args H' nx'=>ro=none/\∀va y:List Value,RX nx nx' ρ ρ->Rel E F nx' ρ H'.get w->AF ρ args (va++y)->
   next ({a with defers:={target:=.fn (.func g) y.toArray,args:=va.toArray}::a.defers}.put o.dst undef) w
theorem Nz (ro:Option Nat) (P:Program) (o:Oper) (w:World) (ρ:Operand->Value):∀f,o.about P w ρ=some f->(FW ro).fn f:=λ_ _=>trivial
theorem F2 {P:Program} {ro:Option Nat} {o:Oper} {a:Act} {w w':World} {v:Value} {next:Act->World->Prop} {Q:Exit->Act->World->Prop} (hd:∀c,o.op≠.defer c) (h:AdC P (execOp a.eval o) w v w') (hn:next (a.put o.dst v) w'):o.wpIn (FW ro) 0 P a w next Q:=by
 refine⟨Nz ro P o w a.eval,?_⟩;rw[Oper.semAt_eq _ _ _ hd];rcases h with h|⟨h,rfl⟩
 ·rw[h];exact hn
 ·rw[h];exact hn
theorem Aa7 {P:Program} {H:Tr Ac} {X:Operand->Option AV} {op:Op} {a:AV} (h:Dl P H X op=some a):∀c,op≠.defer c:=by rintro c rfl;simp[Dl,HP,Hd,QD]at h
theorem Aam {P:Program} {X:Operand->Option AV} {ni:Nat} {op:Op} {a:AV×Ac} (h:EE P X ni op=some a):∀c,op≠.defer c:=by rintro c rfl;simp[EE,Jh,It]at h
theorem Aej {fn : Func} (ho : fn.origin = "") (h : fn.name = "maps.clone") : Extern.findNext fn = none ∧ Extern.find fn = some Extern.MapsClone.clone ∧ (fn.name == "runtime.NumGoroutine") = false := by
 obtain⟨name,origin⟩:=fn;simp only at ho h;subst ho;subst h;exact⟨by kernel_rfl,by kernel_rfl,by kernel_rfl⟩
theorem AeN {P:Program} {E:Env} {F:Nat->Option Obj} {nx nx':Nat} {ρ:Af} {H:Tr Ac} {w:World} (r:Rel E F nx ρ H.get w) {ni:Nat} (hni:ρ ni=none) (hnx:nx<=nx') (hni':ni<nx') {t:K4} {res:CR} (hev:mT P H ni nx' t=some res):∃g args v H',t=.fn g args/\res=.mk v H' nx'/\∀us:List Value,AF ρ args us->∃u ρ' w',(callFunc g us.toArray).run P w=.ok (.value u) w'/\RY ni nx nx' ρ ρ'/\Rel E F nx' ρ' H'.get w'/\VR ρ' v u:=by
 unfold mT at hev;split at hev
 ·rename_i g ty id;obtain⟨fn,hfn,h1⟩:=Ae.1 hev;obtain⟨hb,h2⟩:=AK.1 h1;obtain⟨ho,h3⟩:=AK.1 h2;obtain⟨hn,h4⟩:=AK.1 h3;obtain⟨o,hob,h5⟩:=Ae.1 h4;clear hev h1 h2 h3 h4;split at h5
  ·rename_i es clock;injection h5 with h5;subst h5;refine⟨g,_,_,_,rfl,rfl,λus hus=>?_⟩;cases hus with
   |cons _ u _ us1 hu hus1=>
    cases hus1;cases hu with
    |iface _ _ um hum=>
     cases hum with
     |map _ b hbm=>
      obtain⟨co,hc,hor⟩:=r.ob _ _ b hob hbm;cases hor with
      |map _ _ l hl=>
       obtain⟨e1,e2,e3⟩:=Aej (by simpa using ho) (by simpa using hn);have hle:=Af.Li (ρ:=ρ) hni ⟨w.heap.size,0,0⟩;have A:=r.alloc (nx':=nx') hni hnx hni' (cap:=0) (a:=.map es clock) (o:=.map l.toArray clock) (.map es clock l (hl.mono hle));obtain⟨A1,A2⟩:=A;rw[<-H5]at A1;refine⟨.iface ty (.map (some w.heap.size)),_,_,?_,⟨A2,λj _ hj=>by simp[Af.put,hj],hnx⟩,A1,.iface _ _ _ (.map ni ⟨w.heap.size,0,0⟩ (Af.Fx _ _ _))⟩;rw[run_callFunc_extern hfn e3 hb e1 e2];have hgm:(getObj b.b).run P w=.ok (.map l.toArray clock) w:=by simp[getObj,Sem.run,hc]
       have hrun:(Extern.MapsClone.clone #[.iface ty (.map (some b.b))]).run P w=.ok (.iface ty (.map (some w.heap.size))) (w.alloc (.map l.toArray clock)):=by
        change Sem.run P (do
         let .map entries clock ← getObj b.b | stuck "maps.clone: a map expected"
         pure (Value.iface ty (Value.map (some (<-newObj (Obj.map entries clock)))))) w=_
        simp[hgm]
       rw[show [Value.iface ty (.map (some b.b))].toArray= #[.iface ty (.map (some b.b))]from rfl,hrun];rfl
  ·cases h5
 ·cases hev
theorem AeO {P:Program} {E:Env} {F:Nat->Option Obj} {nx:Nat} {ρ:Af} {H H':Tr Ac} {w:World} (r:Rel E F nx ρ H.get w) {ts:List TypeId} {xs:List AV} {us:List Value} {v:AV} (hx:AF ρ xs us) (y:mV P H ts xs=some (v,H')) (ty:TypeId):∃u w',(Builtin.copy_ ts.toArray ty us.toArray).run P w=.ok u w'/\Rel E F nx ρ H'.get w'/\VR ρ v u:=by
 unfold mV at y;split at y
 ·rename_i t tl d s;obtain⟨td,M,h1⟩:=Ae.1 y;clear y;cases hx with
  |cons _ ud _ ah J V=>cases V with
   |cons _ aa _ ag ae U=>
    cases U;split at h1
    ·rename_i el;obtain⟨i,hi,h2⟩:=Ae.1 h1;obtain⟨⟨n,l⟩,W,L⟩:=Ae.1 h2;clear h1 h2;obtain⟨vs,ad,ai,ab⟩:=xJ (P:=P) r (HS.refl ρ H) ae W;obtain⟨O,S⟩:=ab w (λ_=>rfl);have R:P.cellsOf el=i.size:=by simp[Program.cellsOf,hi]
     have C:∀(id off m c:Nat) (b:CM),ρ id=some b->n<=m->(ob (Tm H id off l) λH'=>fN n λm=>some (AV.int .i64 (.ofNat m),H'))=some (v,H')-> ∃u w',(Builtin.copy_ (t::tl).toArray ty [.slice (some ⟨b.b,b.ob+off,none⟩) m c,aa].toArray).run P w=.ok u w'/\Rel E F nx ρ H'.get w'/\VR ρ v u:=by intro id off m c b hb q h5;obtain⟨H1,af,K⟩:=Ae.1 h5;rw[Bu]at K;injection K with K;injection K with K h7;subst K;subst h7;obtain⟨w',hw,Y⟩:=mu (P:=P) r hb ad af;refine⟨.int .i64 (Int.ofNat n),w',?_,Y,.int _ _⟩;have Z:Nat.min n m=n:=Nat.min_eq_left q;unfold Builtin.copy_;simp only[List.getElem?_toArray,List.getElem?_cons_zero,List.getElem?_cons_succ,Sem.run_bind,run_underlying M,Result.andThen_ok,O,Z,run_sizeOf w hi,R,S,hw,Sem.run_pure];rfl
     split at L
     ·rename_i id off m c;obtain⟨q,B⟩:=AK.1 L;rw[Nat.ble_eq]at q;cases J with
      |sl _ _ _ _ b hb=>exact C id off m c b hb q B
     ·rename_i id off m c;obtain⟨q,B⟩:=AK.1 L;rw[Nat.ble_eq]at q;cases J with
      |Bw _ _ _ _ b hb _ _=>exact C id off m _ b hb q B
     ·obtain⟨hz,B⟩:=AK.1 L;injection B with B;injection B with B h5;subst B;subst h5;have hn:=Nat.eq_of_beq_eq_true hz;simp only at hn;subst hn;cases J;refine⟨.int .i64 (Int.ofNat 0),w,?_,r,.int _ _⟩;unfold Builtin.copy_;simp only[List.getElem?_toArray,List.getElem?_cons_zero,List.getElem?_cons_succ,Sem.run_bind,run_underlying M,Result.andThen_ok,O,Nat.min_self,run_sizeOf w hi,R,S,Sem.run_pure];rfl
     ·cases L
    ·cases h1
 ·cases y
theorem zP {ρ:Af} {seen:List Nat}:∀ {q:List DJ} {l:List MapEntry},Ek ρ q l->Ek ρ (cH seen q) (l.filter λm=>!seen.contains m.born)
 |_,_,.nil=>.nil
 |_,_,.cons e m q l B C=>by
  have y:=zP (seen:=seen) C;show Ek ρ (cond (seen.contains e.born) (cH seen q) (e::cH seen q)) _;rw[List.filter_cons];have hb:m.born=e.born:=B.2.2.symm;cases hc:seen.contains e.born with
  |true=>rw[cond_true,hb,hc];exact y
  |false=>rw[cond_false,hb,hc];exact .cons _ _ _ _ B y
theorem uX {ρ:Af} {last:Nat}:∀ {q:List DJ} {l:List MapEntry},Ek ρ q l->kW (λe=>Nat.ble last e.born) q=l.all λm=>decide (last<=m.born)
 |_,_,.nil=>rfl
 |_,_,.cons e m q l C B=>by
  have y:=uX (last:=last) B;have hb:m.born=e.born:=C.2.2.symm;show cond (Nat.ble last e.born) (kW _ q) false=_;rw[List.all_cons,y,hb];by_cases h:last<=e.born
  ·have E:Nat.ble last e.born=true:=by rw[Nat.ble_eq];exact h
   rw[E,cond_true];simp[h]
  ·have:Nat.ble last e.born=false:=by
    cases hb:Nat.ble last e.born with
    |false=>rfl
    |true=>rw[Nat.ble_eq]at hb;exact absurd hb h
   rw[this,cond_false];simp[h]
set_option maxHeartbeats 1000000 in
theorem wz {P:Program} {call:DZ} (aP:K3 P call) {E:Env} {F:Nat->Option Obj} {nx nx':Nat} {ρ:Af} {H:Tr Ac} {w:World} (r:Rel E F nx ρ H.get w) {X:Operand->Option AV} {a:Act} (hX:XR ρ X a.eval) {ni:Nat} (aC:ρ ni=none) (q:nx<=nx') (aA:ni<nx') {o:Oper} {ao:CR} (C:Gq P call X H ni nx' o.op=some ao) {ro:Option Nat} {next:Act->World->Prop} {Q:Exit->Act->World->Prop} (W:Yh E F ni nx ρ o a w ro next Q ao):o.wpIn (FW ro) 0 P a w next Q:=by
 obtain⟨dst,op,type,pos,after,guard⟩:=o;simp only at C;cases op<;>simp only[Gq]at C<;>first|(cases C;done)|skip
 case store t x y=>
  obtain⟨xa,af,L⟩:=Ae.1 C;obtain⟨ya,aq,O⟩:=Ae.1 L;obtain⟨H1,au,J⟩:=Ae.1 O;injection J with J;subst J;obtain⟨w',U,h7⟩:=Afc (P:=P) r (hX _ _ af) (hX _ _ aq) au;refine F2 (by simp) (.inr ⟨?_,rfl⟩) (W undef ρ w' ⟨Af.le_refl ρ,λ_ _ _=>rfl,q⟩ (h7.Ff q) (.AL _ _ .nil));simp[execOp,U]
 case mapUpdate t m k y=>
  obtain⟨ma,aJ,L⟩:=Ae.1 C;obtain⟨ka,aK,O⟩:=Ae.1 L;obtain⟨ya,aq,J⟩:=Ae.1 O;obtain⟨H1,au,M⟩:=Ae.1 J;injection M with M;subst M;obtain⟨w',U,h7⟩:=mc (P:=P) r (hX _ _ aJ) (hX _ _ aK) (hX _ _ aq) au;refine F2 (by simp) (.inr ⟨?_,rfl⟩) (W undef ρ w' ⟨Af.le_refl ρ,λ_ _ _=>rfl,q⟩ (h7.Ff q) (.AL _ _ .nil));simp[execOp,U]
 case insert t m k y=>
  obtain⟨ma,aJ,L⟩:=Ae.1 C;obtain⟨ka,aK,O⟩:=Ae.1 L;obtain⟨ya,aq,J⟩:=Ae.1 O;obtain⟨H1,au,M⟩:=Ae.1 J;injection M with M;subst M;obtain⟨w',U,h7⟩:=mc (P:=P) r (hX _ _ aJ) (hX _ _ aK) (hX _ _ aq) au;refine F2 (by simp) (.inr ⟨?_,rfl⟩) (W undef ρ w' ⟨Af.le_refl ρ,λ_ _ _=>rfl,q⟩ (h7.Ff q) (.AL _ _ .nil));simp[execOp,U]
 case call c=>
  obtain⟨callee,args,argTypes⟩:=c;simp only at C;cases callee with
  |invoke _ _=>cases C
  |builtin b=>
   cases b<;>first|(cases C;done)|skip
   case panic=>
    obtain⟨xs,ad,L⟩:=Ae.1 C;have Z:=Jl hX ad;split at L
    ·rename_i t v l;injection L with L;subst L;generalize hm:args.toList.map a.eval=vs at Z;cases Z with
     |cons _ u _ us hu bG=>
      cases hu;rename_i u hu;refine⟨Nz ro P _ w a.eval,?_⟩;rw[Oper.semAt_eq _ _ _ (by simp)];have hg:(args.map a.eval).getD 0 .nilIface=.iface t u:=by
       have:(args.map a.eval).toList=.iface t u::us:=by rw[Array.toList_map];exact hm
       rw[show args.map a.eval=(Value.iface t u::us).toArray by rw[<-this]];rfl
      have S:(execOp a.eval {dst,op:=.call {callee:=.builtin .panic,args,argTypes},type,pos,after,guard}).run P w=.halt (.panic (.iface t u)) w:=by simp only[execOp,resolve,Sem.run_bind,Sem.run_pure,Result.andThen_ok,invoke,builtin,hg];rfl
      rw[S];exact W _ ρ w ⟨Af.le_refl ρ,λ_ _ _=>rfl,q⟩ (r.Ff q) (.iface _ _ _ hu)
    ·cases L
   case copy=>
    obtain⟨xs,ad,L⟩:=Ae.1 C;obtain⟨⟨av,H1⟩,aM,O⟩:=Ae.1 L;injection O with O;subst O;obtain⟨u,w',R,U,h7⟩:=AeO (P:=P) r (Jl hX ad) aM type;rw[map_toArray,Array.toArray_toList]at R;refine F2 (by simp) (.inl ?_) (W u ρ w' ⟨Af.le_refl ρ,λ_ _ _=>rfl,q⟩ (U.Ff q) h7);simp only[execOp,resolve,Sem.run_bind,Sem.run_pure,Result.andThen_ok,invoke,builtin,R]
   obtain⟨xs,ad,L⟩:=Ae.1 C;obtain⟨⟨av,H1⟩,aM,O⟩:=Ae.1 L;injection O with O;subst O;obtain⟨u,w',aa,R,U,h7,h8⟩:=AeE (P:=P) r aC q aA (Jl hX ad) aM type;rw[map_toArray,Array.toArray_toList]at R;refine F2 (by simp) (.inl ?_) (W u aa w' ⟨h7.1,λx _ hx=>h7.2 x hx,q⟩ U h8);simp only[execOp,resolve,Sem.run_bind,Sem.run_pure,Result.andThen_ok,invoke,builtin,R]
  |value f=>
   obtain⟨fa,aE,L⟩:=Ae.1 C;obtain⟨xs,ad,O⟩:=Ae.1 L;obtain⟨t,ht,J⟩:=Ae.1 O;clear C L O;cases aV:call t H nx' with
   |none=>
    rw[aV]at J;obtain⟨g,targs,v,H',rfl,rfl,bz⟩:=AeN (P:=P) r aC q aA J;have ae:=hX _ _ aE;have Z:=Jl hX ad;rw[show args.toList.map a.eval=(args.map a.eval).toList by rw[Array.toList_map]]at Z;unfold Jq at ht;split at ht
    ·rename_i g' first cap
     injection ht with ht;injection ht with aI aH;subst aI;subst aH;generalize ah:a.eval f=fv at ae;cases ae with
     |fn _ _ _ va vc ha hc=>
      obtain⟨u,aa,w',M,R,U,h7⟩:=bz _ (ha.append (Z.append hc));refine F2 (by simp) (.inl ?_) (W u aa w' R U h7);have aR:va.toArray++args.map a.eval++vc.toArray=(va++((args.map a.eval).toList++vc)).toArray:=by apply Array.ext';simp
      simp only[execOp,resolve,ah,Deferred.ofValue,Sem.run_bind,Sem.run_pure,Result.andThen_ok,invoke,aR,M]
    ·injection ht with ht;cases ht
    ·cases ht
   |some rc=>
   have J:call t H nx'=some ao:=by rw[aV]at J⊢;exact J
   have Am:=aP t H nx' ao J E F ρ w (r.Ff q);have ae:=hX _ _ aE;have Z:=Jl hX ad;rw[show args.toList.map a.eval=(args.map a.eval).toList by rw[Array.toList_map]]at Z;refine⟨Nz ro P _ w a.eval,?_⟩;rw[Oper.semAt_eq _ _ _ (by simp)];unfold Jq at ht;split at ht
   ·rename_i g first cap
    injection ht with ht;subst ht;generalize ah:a.eval f=fv at ae;cases ae with
    |fn _ _ _ va vc ha hc=>
     obtain⟨⟨fn,c,bq,bn,bC⟩,aG⟩:=Am;have bg:=ha.append (Z.append hc);have bB:=aG _ bg;have S:(execOp a.eval {dst,op:=.call {callee:=.value f,args,argTypes},type,pos,after,guard}).run P w=.ok (.enter g ((va++((args.map a.eval).toList++vc)).toArray)) w:=by simp only[execOp,resolve,ah,Deferred.ofValue,Sem.run_bind,Sem.run_pure,Result.andThen_ok,invoke,callFunc,run_program,bq,bn,Bool.false_eq_true,if_false,bC,Option.isNone_some];congr 2;apply Array.ext';simp
     rw[S];refine⟨by simp[FW,Fence.wide],?_⟩;have ab:=CallsIn.mono bB (R':=λ
      |.returned v,ak=>next (a.put dst v) ak
      |.panicked chain,ak=>Q (.panic chain) a ak
      |.outgrown,_=>LetsOut Q) (λe w' he=>by
       cases ao with
       |mk v H' ay=>obtain⟨u,aa,rfl,M,R,U⟩:=he;exact W u aa w' (M.gE q (Nat.le_refl _)).ry R U
       |AA v H' ay=>obtain⟨u,aa,rfl,M,R,U⟩:=he;exact W u aa w' (M.gE q (Nat.le_refl _)).ry R U
       |Dc _ _ _ _=>exact he.elim)
     cases ro with
     |none=>exact ab
     |some l=>exact ab
   ·rename_i id;injection ht with ht;subst ht;generalize ah:a.eval f=fv at ae;cases ae with
    |Dr _ b hb=>
     obtain⟨fn,tmps,bD,body,hy,aF⟩:=Am _ b Z hb;have S:(execOp a.eval {dst,op:=.call {callee:=.value f,args,argTypes},type,pos,after,guard}).run P w=.ok (.round b.b fn tmps bD body) w:=by rw[Array.toArray_toList]at hy;simp only[execOp,resolve,ah,Deferred.ofValue,Sem.run_bind,Sem.run_pure,Result.andThen_ok,invoke,Array.empty_append,hy]
     rw[S];refine⟨by simp[FW,Fence.wide],?_⟩;have ab:=RoundIn.mono aF (R':=λ
      |.returned v,ak=>next (a.put dst v) ak
      |.panicked chain,ak=>Q (.panic chain) a ak
      |.outgrown,_=>LetsOut Q) (λe w' he=>by
       cases ao with
       |mk v H' ay=>obtain⟨u,aa,rfl,M,R,U⟩:=he;exact W u aa w' (M.gE q (Nat.le_refl _)).ry R U
       |AA v H' ay=>obtain⟨u,aa,rfl,M,R,U⟩:=he;exact W u aa w' (M.gE q (Nat.le_refl _)).ry R U
       |Dc _ _ _ _=>exact he.elim)
     cases ro with
     |none=>exact ab
     |some l=>exact ab
   ·cases ht
 case range t x=>
  obtain⟨xa,af,L⟩:=Ae.1 C;obtain⟨d,hd,O⟩:=Ae.1 L;have hu:=hX _ _ af;clear C L;generalize ag:a.eval x=u at hu;split at O
  ·rename_i id;obtain⟨o,ho,J⟩:=Ae.1 O;split at J
   ·rename_i es B;injection J with J;subst J;cases hu with
    |map _ b hb=>
    obtain⟨co,hc,al⟩:=r.ob _ _ b ho hb;cases al with
    |map _ _ l hl=>
    have ar:=Af.Li (ρ:=ρ) aC ⟨w.heap.size,0,0⟩;have A:=r.alloc (nx':=nx') aC q aA (cap:=0) (a:=.Ix id B [] B) (o:=.mapIter (some b.b) B #[] B) (.Ix id B [] B b rfl (ar _ _ hb));obtain⟨A1,A2⟩:=A;rw[<-H5]at A1;refine F2 (by simp) (.inl ?_) (W (.pointer (some ⟨w.heap.size,0,none⟩)) _ _ ⟨A2,λj _ hj=>by simp[Af.put,hj],q⟩ A1 (.ptr ni 0 ⟨w.heap.size,0,0⟩ (Af.Fx _ _ _)));have aD:(getObj b.b).run P w=.ok (.map l.toArray B) w:=by simp[getObj,Sem.run,hc]
    simp[execOp,ag,Instr.range,run_underlying hd,aD]
   ·cases J
  ·cases O
 case next x Ah=>
  obtain⟨xa,af,L⟩:=Ae.1 C;obtain⟨⟨v,H1⟩,hn,O⟩:=Ae.1 L;injection O with O;subst O;have hu:=hX _ _ af;clear C L;generalize ag:a.eval x=u at hu;unfold xF at hn;split at hn
  ·rename_i id;cases hu with
   |ptr _ _ b hb=>
   obtain⟨o,ho,J⟩:=Ae.1 hn;obtain⟨co,hc,al⟩:=r.ob _ _ b ho hb;split at J
   ·rename_i l n pos;cases al with
    |Mo _ _ _ aB bl=>
    have aS:(BB l n).size=l:=MG l n;cases ai:Nat.blt pos l with
    |true=>
     rw[ai,cond_true,Bu]at J;obtain⟨aW,M⟩:=AK.1 J;rw[Bu]at M;injection M with M;injection M with M R;subst M;subst R;rw[Nat.blt_eq]at ai aW;have a4:(BB l n).get! (pos+0)=UInt8.ofNat (n/256^pos):=by
      have L:=Zf l n pos ai;show(BB l n).data[pos+0]! =_;have O:(BB l n).data[pos]? =some (UInt8.ofNat (n/256^pos)):=by rw[<-Array.getElem?_toList,Qq];exact L
      simp[getElem!_def,O]
     have a7:Utf8.decode (BB l n) pos=(n/256^pos %256,1):=by unfold Utf8.decode;simp only[a4,HR];rw[if_pos aW]
     have Y:=r.put (a:=.Mo l n (pos+1)) (c:=.stringIter (BB l n) (pos+1)) ho hb (.Mo l n (pos+1) aB bl) (w':=World.ES w b.b (.stringIter (BB l n) (pos+1))) (M7 w b.b _ _ hc) rfl rfl rfl;rw[<-H5]at Y;refine F2 (by simp) (.inl ?_) (W (.tuple #[.bool true,.int .i64 (Int.ofNat pos),.int .i32 (Int.ofNat (n/256^pos %256))]) ρ _ ⟨Af.le_refl ρ,λ_ _ _=>rfl,q⟩ (Y.Ff q) (.AL _ [.bool true,.int .i64 (Int.ofNat pos),.int .i32 (Int.ofNat (n/256^pos %256))] (.cons _ _ _ _ (.bool _) (.cons _ _ _ _ (.int _ _) (.cons _ _ _ _ (.int _ _) .nil)))));have hz:b.ob+0=0:=by omega
     have aj:(getObj b.b).run P w=.ok (.stringIter (BB l n) pos) w:=by simp[getObj,Sem.run,hc]
     have az:(setObj b.b (.stringIter (BB l n) (pos+1))).run P w=.ok () (World.ES w b.b (.stringIter (BB l n) (pos+1))):=by simp[setObj,Sem.run,hc,World.ES]
     simp only[execOp,ag,hz,Instr.next,Sem.run_bind,aj,Result.andThen_ok,aS,a7,if_pos ai,az,Sem.run_pure];rfl
    |false=>
     rw[ai,cond_false]at J;injection J with J;injection J with J M;subst J;subst M;have bo:¬pos<l:=λh=>by rw[<-Nat.blt_eq,ai]at h;cases h
     refine F2 (by simp) (.inl ?_) (W (.tuple #[.bool false]) ρ w ⟨Af.le_refl ρ,λ_ _ _=>rfl,q⟩ (r.Ff q) (.AL _ [.bool false] (.cons _ _ _ _ (.bool _) .nil)));have hz:b.ob+0=0:=by omega
     have aj:(getObj b.b).run P w=.ok (.stringIter (BB l n) pos) w:=by simp[getObj,Sem.run,hc]
     simp only[execOp,ag,hz,Instr.next,Sem.run_bind,aj,Result.andThen_ok,aS,if_neg bo,Sem.run_pure]
   ·cases al with
    |O6 s0 seen last aB=>
    injection J with J;injection J with J M;subst J;subst M;refine F2 (by simp) (.inl ?_) (W (.tuple #[.bool false]) ρ w ⟨Af.le_refl ρ,λ_ _ _=>rfl,q⟩ (r.Ff q) (.AL _ [.bool false] (.cons _ _ _ _ (.bool _) .nil)));have hz:b.ob+0=0:=by omega
    have aj:(getObj b.b).run P w=.ok (.mapIter none s0 seen last) w:=by simp[getObj,Sem.run,hc]
    simp only[execOp,ag,hz,Instr.next,Sem.run_bind,aj,Result.andThen_ok,Sem.run_pure]
   ·rename_i mid K seen last;cases al with
    |Ix _ _ _ _ bm aB aX=>
    obtain⟨om,bk,M⟩:=Ae.1 J;obtain⟨cm,bx,aY⟩:=r.ob _ _ bm bk aX;split at M
    ·rename_i es B;cases aY with
     |map _ _ l hl=>
     obtain⟨hg,R⟩:=AK.1 M;have hz:b.ob+0=0:=by omega
     have aj:(getObj b.b).run P w=.ok (.mapIter (some bm.b) K seen.toArray last) w:=by simp[getObj,Sem.run,hc]
     have aD:(getObj bm.b).run P w=.ok (.map l.toArray B) w:=by simp[getObj,Sem.run,bx]
     have aU:(!seen.toArray.isEmpty&& !l.toArray.isEmpty&&l.toArray.all (λe=>decide (e.born>=last)))=false:=by
      have a8:=uX (last:=last) hl;have a6:es.isEmpty=l.isEmpty:=by cases hl<;>rfl
      rw[a8,a6]at hg;simp only[List.isEmpty_toArray,List.all_toArray];cases L:seen.isEmpty<;>cases O:l.isEmpty<;>rw[L,O]at hg<;>simp_all
     have V:=zP (seen:=seen) hl;have an:l.toArray.filter (λe=>!seen.toArray.contains e.born)=(l.filter λm=>!seen.contains m.born).toArray:=by simp
     split at R
     ·rename_i ar;injection R with R;injection R with R U;subst R;subst U;rw[ar]at V;have aZ:(l.filter λm=>!seen.contains m.born)=[]:=by generalize(l.filter λm=>!seen.contains m.born)=l' at V;cases V;rfl
      rw[aZ]at an;refine F2 (by simp) (.inl ?_) (W (.tuple #[.bool false]) ρ w ⟨Af.le_refl ρ,λ_ _ _=>rfl,q⟩ (r.Ff q) (.AL _ [.bool false] (.cons _ _ _ _ (.bool _) .nil)));simp only[execOp,ag,hz,Instr.next,Sem.run_bind,aj,aD,Result.andThen_ok,aU,an,Bool.false_eq_true,if_false];simp[Question.forced]
     ·rename_i e ar;obtain⟨ai,U⟩:=AK.1 R;injection U with U;injection U with U h7;subst U;subst h7;rw[Nat.blt_eq]at ai;rw[ar]at V;obtain⟨m,hm,aL⟩:∃m,(l.filter λm=>!seen.contains m.born)=[m]/\ER ρ e m:=by
       generalize(l.filter λm=>!seen.contains m.born)=l' at V;cases V with
       |cons _ m _ bE he hs=>cases hs;exact⟨m,rfl,he⟩
      rw[hm]at an;have aQ:m.born=e.born:=aL.2.2.symm;have Y:=r.put (a:=.Ix mid K (seen++[e.born]) B) (c:=.mapIter (some bm.b) K (seen++[e.born]).toArray B) ho hb (.Ix mid K (seen++[e.born]) B bm aB aX) (w':=World.ES w b.b (.mapIter (some bm.b) K (seen++[e.born]).toArray B)) (M7 w b.b _ _ hc) rfl rfl rfl;rw[<-H5]at Y;refine F2 (by simp) (.inl ?_) (W (.tuple #[.bool true,m.key,m.val]) ρ _ ⟨Af.le_refl ρ,λ_ _ _=>rfl,q⟩ (Y.Ff q) (.AL _ [.bool true,m.key,m.val] (.cons _ _ _ _ (.bool _) (.cons _ _ _ _ aL.1 (.cons _ _ _ _ aL.2.1 .nil)))));have az:(setObj b.b (.mapIter (some bm.b) K (seen++[e.born]).toArray B)).run P w=.ok () (World.ES w b.b (.mapIter (some bm.b) K (seen++[e.born]).toArray B)):=by simp[setObj,Sem.run,hc,World.ES]
      have a3:m.born<K:=by omega
      have a5:¬m.born>=K:=by omega
      have hold:[m].toArray.filter (λe=>decide (e.born<K))=[m].toArray:=by simp[a3]
      have a2:[m].toArray.filter (λe=>decide (e.born>=K))= #[]:=by simp[a5]
      have aO:(if [m].toArray.isEmpty=true then #[none]else #[])++([m].toArray++ #[]).map some= #[some m]:=by simp
      have bA:(choose (.mapNext (#[some m]:Array (Option MapEntry)).size)).run P w=.ok 0 w:=by simp[Question.forced]
      simp only[execOp,ag,hz,Instr.next,Sem.run_bind,aj,aD,Result.andThen_ok,aU,an,Bool.false_eq_true,if_false,hold,a2,aO,bA];have aN:seen.toArray.push m.born=(seen++[e.born]).toArray:=by rw[aQ];simp
      simp[az,aN]
     ·cases R
    ·cases M
   ·cases J
  ·cases hn
 case convert s d x=>
  obtain⟨xa,af,L⟩:=Ae.1 C;have hu:=hX _ _ af;clear C;split at L
  ·rename_i id off len cap;obtain⟨aT,O⟩:=AK.1 L;rw[Nat.beq_eq]at aT;subst aT;obtain⟨dd,bu,J⟩:=Ae.1 O;split at J
   ·rename_i e;obtain⟨de,bt,M⟩:=Ae.1 J;split at M
    ·obtain⟨o,ho,R⟩:=Ae.1 M;clear L O J M;split at R
     ·rename_i el c z n op;injection R with R;subst R;generalize ag:a.eval x=u at hu;cases hu with
      |sl _ _ _ _ b hb=>
       obtain⟨co,hc,al⟩:=r.ob _ _ b ho hb;cases al with
       |cells _ _ _ _ _ cs fz C0 hn bj bp bw=>
        obtain⟨w',bf,bd,bc,bb,bF,aw,ba,a9⟩:∃w':World,(convert s s (.slice (some ⟨b.b,b.ob+off,none⟩) len cap)).run P w=.ok (.slice (some ⟨b.b,b.ob+off,none⟩) len cap) w'/\ w'.tape=w.tape/\w'.os=w.os/\w'.output=w.output/\True/\∃aw,(∀k,w'.heap[k]? =if k=b.b then some (.cells cs el aw)else w.heap[k]?)/\Z6 cs aw:=by
         have bh:w.shape? b.b=some (el,cs.size):=by simp[World.shape?,hc]
         refine⟨w.freeze ⟨b.b,cs.size,none⟩ 1,?_,rfl,rfl,rfl,trivial,if fz.1==fz.2 then(cs.size,cs.size+1)else(min fz.1 cs.size,max fz.2 (cs.size+1)),λk=>?_,?_⟩
         ·simp only[convert,Sem.run_bind,run_underlying bu,run_underlying bt,Result.andThen_ok,BEq.rfl,markStringish,run_shape,bh];rfl
         ·show(w.heap.modify b.b _)[k]? =_;rw[Array.getElem?_modify];by_cases W:k=b.b
          ·subst W;rw[if_pos rfl,if_pos rfl,hc];rfl
          ·rw[if_neg (λe=>W e.symm),if_neg W]
         ·rcases bp with h|h
          ·subst h;exact .inr (Nat.le_refl _)
          ·split
           ·exact .inr (Nat.le_refl _)
           ·exact .inr (by simp only;omega)
        have Y:=r.put (a:=.cells el c z n op) (c:=.cells cs el aw) ho hb (.cells el c z n op cs aw C0 hn bj a9 bw) ba bd bc bb;have ah:(λj=>if j=id then some (Ac.cells el c z n op)else H.get j)=H.get:=by
         funext j;by_cases hj:j=id
         ·rw[if_pos hj,hj,ho]
         ·rw[if_neg hj]
        rw[ah]at Y;refine F2 (by simp) (.inl ?_) (W _ ρ w' ⟨Af.le_refl ρ,λ_ _ _=>rfl,q⟩ (Y.Ff q) (.sl id off len cap b hb));simp only[execOp,ag,Sem.run_bind,bf,Result.andThen_ok,Sem.run_pure]
     ·cases R
    ·cases M
   ·cases J
  ·cases L
 case panic x=>
  obtain⟨xa,af,L⟩:=Ae.1 C;split at L
  ·rename_i t v;injection L with L;subst L;have hu:=hX _ _ af;generalize hm:a.eval x=vx at hu;cases hu;rename_i u hu;refine⟨Nz ro P _ w a.eval,?_⟩;rw[Oper.semAt_eq _ _ _ (by simp)];have S:(execOp a.eval {dst,op:=.panic x,type,pos,after,guard}).run P w=.halt (.panic (.iface t u)) w:=by simp only[execOp,hm];rfl
   rw[S];exact W _ ρ w ⟨Af.le_refl ρ,λ_ _ _=>rfl,q⟩ (r.Ff q) (.iface _ _ _ hu)
  ·cases L
 case defer c=>
  obtain⟨callee,args,argTypes⟩:=c;simp only at C;cases callee with
  |invoke _ _=>cases C
  |builtin b=>cases C
  |value f=>
   obtain⟨fa,aE,L⟩:=Ae.1 C;obtain⟨xs,ad,O⟩:=Ae.1 L;obtain⟨t,ht,J⟩:=Ae.1 O;clear C L O;split at J
   ·rename_i g args';injection J with J;subst J;obtain⟨rfl,W⟩:=W;have ae:=hX _ _ aE;have Z:=Jl hX ad;rw[show args.toList.map a.eval=(args.map a.eval).toList by rw[Array.toList_map]]at Z;refine⟨Nz none P _ w a.eval,?_⟩;show Oper.uponIn _ _ _ _ _ _ _ ((Oper.semAt none a.eval _).run P w);rw[Oper.semAt_none];unfold Jq at ht;split at ht
    ·rename_i g0 first cap
     injection ht with ht;injection ht with aI aH;subst aI;subst aH;generalize ah:a.eval f=fv at ae;cases ae with
     |fn _ _ _ va vc ha hc=>
      have S:(execOp a.eval {dst,op:=.defer {callee:=.value f,args,argTypes},type,pos,after,guard}).run P w=.ok (.defer {target:=.fn (.func g0) vc.toArray,args:=(va++(args.map a.eval).toList).toArray}) w:=by simp only[execOp,resolve,ah,Deferred.ofValue,Sem.run_bind,Sem.run_pure,Result.andThen_ok];congr 3;apply Array.ext';simp
      rw[S];exact W (va++(args.map a.eval).toList) vc ⟨Af.le_refl ρ,λ_ _=>rfl,q⟩ (r.Ff q) (by rw[List.append_assoc];exact ha.append (Z.append hc))
    ·injection ht with ht;cases ht
    ·cases ht
   ·cases J
theorem AnB {P:Program} {E:Env} {F:Nat->Option Obj} {nx nx':Nat} {ρ:Af} {H:Tr Ac} {w:World} (r:Rel E F nx ρ H.get w) {X:Operand->Option AV} {a:Act} (R:XR ρ X a.eval) {ni:Nat} (ab:ρ ni=none) (B:nx<=nx') (L:ni<nx') {o:Oper} {v:AV} {H':Tr Ac} (q:JI P X H ni o.op=some (true,v,H')) {ro:Option Nat} {next:Act->World->Prop} {Q:Exit->Act->World->Prop} (hk:Yh E F ni nx ρ o a w ro next Q (.mk v H' nx')):o.wpIn (FW ro) 0 P a w next Q:=by
 obtain⟨dst,op,type,pos,after,guard⟩:=o;simp only at q;cases op<;>simp only[JI]at q<;>first|(cases q;done)|skip
 case store t x y=>
  obtain⟨xa,aa,V⟩:=Ae.1 q;obtain⟨ya,Y,h2⟩:=Ae.1 V;obtain⟨⟨sd,H1⟩,ad,J⟩:=Ae.1 h2;injection J with J;injection J with J U;injection U with U O;subst U;subst O;simp only at J;subst J;obtain⟨w',S,M⟩:=AnP (P:=P) r (R _ _ aa) (R _ _ Y) ad;refine F2 (by simp) (.inr ⟨?_,rfl⟩) (hk undef ρ w' ⟨Af.le_refl ρ,λ_ _ _=>rfl,B⟩ (M.Ff B) (.AL _ _ .nil));simp[execOp,S]
 case call c=>
  obtain⟨C,args,K⟩:=c;simp only at q;cases C with
  |invoke _ _=>cases q
  |value _=>cases q
  |builtin b=>
   cases b<;>first|(cases q;done)|skip
   obtain⟨xs,Z,V⟩:=Ae.1 q;obtain⟨u,w',W,O,S,M,h8⟩:=Ans (P:=P) r ab B L (Jl R Z) V type;rw[map_toArray,Array.toArray_toList]at O;refine F2 (by simp) (.inl ?_) (hk u W w' ⟨M.1,λx _ hx=>M.2 x hx,B⟩ S h8);simp only[execOp,resolve,Sem.run_bind,Sem.run_pure,Result.andThen_ok,invoke,builtin,O]
theorem m8 {P:Program} {call:DZ} (B:K3 P call) {E:Env} {F:Nat->Option Obj} {nx nx':Nat} {ρ:Af} {H:Tr Ac} {w:World} (r:Rel E F nx ρ H.get w) {X:Operand->Option AV} {a:Act} (O:XR ρ X a.eval) {ni:Nat} (K:ρ ni=none) (J:nx<=nx') (y:ni<nx') {o:Oper} {L:CR} (q:FK P call X H ni nx' o.op=some L) {ro:Option Nat} {next:Act->World->Prop} {Q:Exit->Act->World->Prop} (M:Yh E F ni nx ρ o a w ro next Q L):o.wpIn (FW ro) 0 P a w next Q:=by
 cases C:JI P X H ni o.op with
 |none=>
  have R:FK P call X H ni nx' o.op=Gq P call X H ni nx' o.op:=by unfold FK;rw[C]
  rw[R]at q;exact wz B r O K J y q M
 |some p=>
  obtain⟨b,v,H'⟩:=p;have R:FK P call X H ni nx' o.op=cond b (some (.mk v H' nx')) (Gq P call X H ni nx' o.op):=by unfold FK;rw[C]
  rw[R]at q;cases b with
  |true=>injection q with q;subst q;exact AnB r O K J y C M
  |false=>exact wz B r O K J y q M
theorem Ae5 {P:Program} {call:DZ} (J:K3 P call) {E:Env} {F:Nat->Option Obj} {nx nx':Nat} {ρ:Af} {H:Tr Ac} {w:World} (r:Rel E F nx ρ H.get w) {X:Operand->Option AV} {a:Act} (O:XR ρ X a.eval) {ni:Nat} (C:ρ ni=none) (y:nx<=nx') (B:ni<nx') {o:Oper} {K:CR} (q:ML P call X H ni nx nx' o.op=some K) {ro:Option Nat} {next:Act->World->Prop} {Q:Exit->Act->World->Prop} (L:Yh E F ni nx ρ o a w ro next Q K):o.wpIn (FW ro) 0 P a w next Q:=by
 unfold ML at q;cases hp:Dl P H X o.op with
 |some W=>rw[hp]at q;injection q with q;subst q;obtain⟨u,S,R⟩:=ml r (HS.refl ρ H) O o hp;exact F2 (Aa7 hp) (.inl S) (L u ρ w (RX.refl _ ρ).ry r R)
 |none=>
  rw[hp]at q;cases hn:EE P X ni o.op with
  |some p=>
   rw[hn]at q;obtain⟨W,Y⟩:=p;injection q with q;subst q;obtain⟨u,Z,c,cap,S,R,V,U⟩:=mg (P:=P) (w:=w) O C o hn;refine F2 (Aam hn) (.inl S) ?_;rcases R with rfl|rfl
   ·have:=r.alloc C y B V;exact L u _ _ ⟨this.2,λx _ M=>by simp[Af.put,M],y⟩ (by rw[H5];exact this.1) U
   ·have:=r.drew.alloc C y B V;exact L u _ _ ⟨this.2,λx _ M=>by simp[Af.put,M],y⟩ (by rw[H5];exact this.1) U
  |none=>rw[hn]at q;exact m8 J r O C y B q L
end Go.Ev
end
section
/- The evaluator, part L: what code and calls come to. -/
namespace Go.Ev
inductive DR (ρ:Af):List Qe->List Deferred->Prop where
 |nil:DR ρ [] []
 |mark (id:Nat) (b:CM) (l:List Qe) (ds:List Deferred) (h:ρ id=some b) (hs:DR ρ l ds):DR ρ (.mark id::l) ({target:=.collected b.b,args:=#[]}::ds)
 |call (g:FuncId) (args:List AV) (va vc:List Value) (l:List Qe) (ds:List Deferred) (h:AF ρ args (va++vc)) (hs:DR ρ l ds):
   DR ρ (.call g args::l) ({target:=.fn (.func g) vc.toArray,args:=va.toArray}::ds)
theorem DR.mono {ρ B:Af} (q:ρ.le B):∀ {l:List Qe} {y:List Deferred},DR ρ l y->DR B l y
 |_,_,.nil=>.nil
 |_,_,.mark id b l y h C=>.mark id b l y (q _ _ h) (DR.mono q C)
 |_,_,.call g args va E l y h C=>.call g args va E l y (h.mono q) (DR.mono q C)
def Sh (ρ:Af) (x:AX) (Q:Exit->Prop):Prop:=
 match x with
 |.Cc=>Q .normal
 |.exit id=>Q (.exit id)
 |.goto l=>Q (.goto l)
 |.ret=>Q .ret
 |.AA v=>∀u,VR ρ v u->Q (.panic (fresh u))
inductive Qj (ρ:Af):Option Nat->Option Nat->Prop where
 |none:Qj ρ none none
 |some (id:Nat) (b:CM) (h:ρ id=some b):Qj ρ (some id) (some b.b)
theorem Qj.mono {ρ q:Af} (y:ρ.le q) {a b:Option Nat} (h:Qj ρ a b):Qj q a b:=by
 cases h with
 |none=>exact .none
 |some id b h=>exact .some id b (y _ _ h)
structure SR (E:Env) (F:Nat->Option Obj) (ρ:Af) (s:St) (a:Act) (w:World) (ro:Option Nat):Prop where
 rel:Rel E F s.nx ρ s.H.get w
 tr:TR ρ s.T a.tmps
 size:a.tmps.size=s.N
 dr:DR ρ s.D a.defers
 rr:Qj ρ s.ro ro
theorem Afe {ρ:Af} {ops:Array Oper} {T:Tr AV} {o:Oper} {b:Bool} {tmps:Array Value} (ht:TR ρ T tmps) (h:EX ops T o=some b): Region.wanted o (yielded ops tmps)=b:=by
 unfold EX at h;unfold Region.wanted;cases J:o.guard with
 |none=>rw[J]at h;injection h with h
 |some p=>
  obtain⟨j,q⟩:=p;rw[J]at h;obtain⟨M,B,L⟩:=Ae.1 h;obtain⟨d,hd,K⟩:=Ae.1 L;obtain⟨v,hv,y⟩:=Ae.1 K;obtain⟨u,hu,E⟩:=ht d v hv;have hy:yielded ops tmps j=match u with|.bool b=>some b|_=>none:=by unfold yielded;rw[B];simp only[Option.bind_some,hd,hu];cases u<;>rfl
  show(yielded ops tmps j==some q)=b;rw[hy];split at y
  ·injection y with y;subst y;cases E;rename_i b;cases b<;>cases q<;>rfl
  ·rename_i C;injection y with y;subst y;cases E<;>first|rfl|(exact absurd rfl (C _))
theorem NI {ρ:Af} {N:Nat} {T T':Tr AV} {dst:Option Tmp} {v:AV} {u:Value} {a:Act} (ht:TR ρ T a.tmps) (hn:a.tmps.size=N) (hv:VR ρ v u) (h:Jp N T dst v=some T'): TR ρ T' (a.put dst u).tmps/\(a.put dst u).tmps.size=N/\(a.put dst u).defers=a.defers:=by
 unfold Jp at h;cases dst with
 |none=>injection h with h;subst h;exact⟨ht,hn,rfl⟩
 |some d=>
  obtain⟨B,C⟩:=AK.1 h;injection C with C;subst C;rw[Nat.blt_eq]at B;refine⟨λt x q=>?_,by simp[Act.put,hn],rfl⟩;rw[Tr.F6]at q;by_cases y:d=t
  ·subst y;rw[if_pos rfl]at q;injection q with q;subst q;exact⟨u,by simp[Act.put,hn,B],hv⟩
  ·rw[if_neg y]at q;obtain⟨z,hz,E⟩:=ht t x q;exact⟨z,by simp only[Act.put];rw[Array.getElem?_setIfInBounds_ne y];exact hz,E⟩
def Adj (P:Program):Prop:=∀call ops s x s',K3 P call->mX P call ops s=some (.mk x s')->∀id E F ρ a w ro Q,SR E F ρ s a w ro->(∀q y w',RX s.nx s'.nx ρ q->SR E F q s' y w' ro->Sh q x λe=>Q e y w')-> (Code.region id ops true).wpIn (FW ro) 0 P Q a w
theorem oR {H H':Tr Ac} {id:Nat} {f:LoopState->Option Code->Option (LoopState×Option Code)} (h:cK H id f=some H'): ∃st Dp T N C B body d y q,H.get id=some (.loop st Dp T N C B body d)/\f st Dp=some (y,q)/\H'=H.set id (.loop y q T N C B body d):=by
 obtain⟨o,K,J⟩:=Ae.1 h;cases o with
 |loop st Dp T N C B body d=>obtain⟨⟨y,q⟩,L,E⟩:=Ae.1 J;injection E with E;exact⟨st,Dp,T,N,C,B,body,d,y,q,K,L,E.symm⟩
 |_=>cases J
theorem Aa9 (w:World) (b:Nat) (o q:Obj) (h:w.heap[b]? =some q) (k:Nat):(w.putObj b o).heap[k]? =if k=b then some o else w.heap[k]?:=M7 w b o q h k
theorem cN {E:Env} {F:Nat->Option Obj} {nx:Nat} {ρ:Af} {H:Tr Ac} {w:World} (r:Rel E F nx ρ H.get w) {id:Nat} {b:CM} (hb:ρ id=some b) {st:LoopState} {Dp:Option Code} {T:Tr AV} {N:Nat} {J:Array Tmp} {y body:Code} {d:Nat} (L:H.get id=some (.loop st Dp T N J y body d)): ∃fn tmps C,w.heap[b.b]? =some (.loop {state:=st,pending:=Dp,fn,tmps,params:=J,assign:=y,body,defers:=C})/\TR ρ T tmps/\tmps.size=N/\(∃O,ρ d=some O/\C=O.b)/\ ∀B q,Rel E F nx ρ (H.set id (.loop B q T N J y body d)).get (w.putObj b.b (.loop {state:=B,pending:=q,fn,tmps,params:=J,assign:=y,body,defers:=C})):=by
 obtain⟨c,hc,K⟩:=r.ob _ _ b L hb;cases K with
 |loop _ _ _ _ _ _ _ _ fn tmps C hT M hd=>refine⟨fn,tmps,C.b,hc,hT,M,⟨C,hd,rfl⟩,λB q=>?_⟩;rw[H5];exact r.put L hb (.loop B q T N J y body d fn tmps C hT M hd) (Aa9 w b.b _ _ hc) rfl rfl rfl
theorem Ab2 {ρ:Af}:∀(q:List Tmp) (args:List AV) (vs:List Value) (N:Nat) (T T':Tr AV) (tmps:Array Value),AF ρ args vs->sP q args N T=some T'->TR ρ T tmps->tmps.size=N-> vs.length=q.length/\TR ρ T' ((q.zip vs).foldl (λtmps (x:Tmp×Value)=>tmps.setIfInBounds x.1 x.2) tmps)/\((q.zip vs).foldl (λtmps (x:Tmp×Value)=>tmps.setIfInBounds x.1 x.2) tmps).size=N
 | [],args,vs,N,T,T',tmps,hv,h,ht,hn=>by
  cases hv with
  |nil=>injection h with h;subst h;exact⟨rfl,ht,hn⟩
  |cons _ _ _ _ _ _=>cases h
 |p::q,args,vs,N,T,T',tmps,hv,h,ht,hn=>by
  cases hv with
  |nil=>cases h
  |cons a v l vs C B=>obtain⟨y,L⟩:=AK.1 (show gd (Nat.blt p N) (sP q l N (T.set p a))=some T' from h);obtain⟨O,M,_⟩:=NI (dst:=some p) (a:={tmps:=tmps,defers:=[]}) ht hn C (show Jp N T (some p) a=some (T.set p a) by unfold Jp;exact AK.2 ⟨y,rfl⟩);obtain⟨K,J,E⟩:=Ab2 q l vs N (T.set p a) T' (tmps.setIfInBounds p v) B L O M;exact⟨by simp[K],J,E⟩
theorem AjN {P:Program} {l:Nat} {R:Ending->World->Prop} {x:AX} {a:Act} {w w':World} (h:(Instr.endRound l x.jump).run P w=.ok (.bool x.jump.isNone) w') (q:R (.returned (.bool x.jump.isNone)) w') (ρ:Af) (hc:x.calm=true):Sh ρ x λe=>roundPost P l R e a w:=by cases x<;>first|exact⟨_,w',h,q⟩|cases hc
end Go.Ev
end
section
/- The evaluator, part M: ranges, functions, all of it, given the regions whose order is open. -/
namespace Go.Ev
theorem Agn {c:Option Code} {x:AX} (h:nz c=some x):c=x.jump/\x.calm=true:=by unfold nz at h;split at h<;>first|(cases h;done)|(injection h with h;subst h;exact⟨rfl,rfl⟩)
theorem Ago {P:Program} {ro:Option Nat} {Q:Exit->Act->World->Prop} {a:Act} {w:World} {ρ:Af} (x:AX) (hc:x.calm=true) (h:Sh ρ x λe=>Q e a w):
  match x.jump with
  |none=>Q .normal a w
  |some c=>c.wpIn (FW ro) 0 P Q a w:=by
 cases x with
 |Cc=>exact h
 |exit id=>exact wpIn_exit h
 |goto l=>exact wpIn_goto h
 |ret=>exact wpIn_ret h
 |AA v=>cases hc
theorem Ae9 {P:Program} {E:Env} {F:Nat->Option Obj} {nx:Nat} {ρ:Af} {H:Tr Ac} {w:World} (r:Rel E F nx ρ H.get w) {T:Tr AV} {tmps:Array Value} (ht:TR ρ T tmps) {C:ResultVar} {v:AV} (h:mn P H T C=some v): ∃u,((match C with|.tmp t=>pure (tmps.getD t undef)|.cell a t=>do loadVar t (<-asAddr (tmps.getD a undef)):Sem Value)).run P w=.ok u w/\VR ρ v u:=by
 cases C with
 |tmp t=>obtain⟨u,hu,y⟩:=ht t v h;exact⟨u,by simp[hu],y⟩
 |cell a t=>
  obtain⟨p,hp,B⟩:=Ae.1 h;obtain⟨u,hu,y⟩:=ht a p hp;obtain⟨z,J,K⟩:=xC (P:=P) r (HS.refl ρ H) y B;refine⟨z,?_,K⟩;unfold Wg at B;split at B
  ·rename_i id off;cases y with
   |ptr _ _ b hb=>
    have q:(loadVar t ⟨b.b,b.ob+off,none⟩).run P w=.ok z w:=by simpa[Instr.loadAt,Instr.sureAddr]using J
    simp[hu,asAddr,q]
  ·rename_i g off;cases y with
   |F8 _ _=>
    have q:(loadVar t ⟨g,off,none⟩).run P w=.ok z w:=by simpa[Instr.loadAt,Instr.sureAddr]using J
    simp[hu,asAddr,q]
  ·cases B
theorem xI {P:Program} {E:Env} {F:Nat->Option Obj} {nx:Nat} {ρ:Af} {H:Tr Ac} {w:World} (r:Rel E F nx ρ H.get w) {T:Tr AV} {tmps:Array Value} (ht:TR ρ T tmps): ∀(l:List ResultVar) (vs:List AV),mo P H T l=some vs->∃q:List Value,(l.mapM λy=>(match y with|.tmp t=>pure (tmps.getD t undef)|.cell a t=>do loadVar t (<-asAddr (tmps.getD a undef)):Sem Value)).run P w=.ok q w/\AF ρ vs q
 | [],vs,h=>by injection h with h;subst h;exact⟨[],by simp,.nil⟩
 |y::l,vs,h=>by obtain⟨a,O,R⟩:=Ae.1 (show(ob (mn P H T y) λa=>ob (mo P H T l) λl=>some (a::l))=some vs from h);obtain⟨K,M,B⟩:=Ae.1 R;injection B with B;subst B;obtain⟨u,hu,L⟩:=Ae9 r ht O;obtain⟨q,C,J⟩:=xI r ht l K M;refine⟨u::q,?_,.cons _ _ _ _ L J⟩;simp only[List.mapM_cons,Sem.run_bind,hu,Result.andThen_ok,C,Sem.run_pure]
theorem ZU {P:Program} {E:Env} {F:Nat->Option Obj} {nx:Nat} {ρ:Af} {H:Tr Ac} {w:World} (r:Rel E F nx ρ H.get w) {T:Tr AV} {tmps:Array Value} (ht:TR ρ T tmps) {fn:Func} {v:AV} (h:Tk P H T fn.results.toList=some v):∃u,(results fn tmps).run P w=.ok u w/\VR ρ v u:=by
 obtain⟨vs,At,y⟩:=Ae.1 h;obtain⟨C,J,B⟩:=xI r ht _ _ At;have q:∀K:Array Value->Sem Value,((fn.results.mapM λS=>(match S with|.tmp t=>pure (tmps.getD t undef)|.cell a t=>do loadVar t (<-asAddr (tmps.getD a undef)):Sem Value))>>=K).run P w=(K C.toArray).run P w:=λK=>by rw[Array.mapM_eq_mapM_toList];simp only[Sem.run_bind,Sem.run_map,J,Result.andThen_ok]
 unfold results;split at y
 ·rename_i R;injection y with y;subst y;cases B with
  |cons _ u _ W V U=>cases U;refine⟨u,?_,V⟩;refine Eq.trans (q λvs=>pure (if h:vs.size=1 then vs[0]else .tuple vs)) ?_;simp
 ·rename_i O;injection y with y;subst y;refine⟨.tuple C.toArray,?_,.AL _ _ B⟩;have L:C.toArray.size≠1:=by
   intro M;have:vs.length=1:=by rw[B.length];simpa using M
   match vs,this with
   | [R],_=>exact O R rfl
  refine Eq.trans (q λvs=>pure (if h:vs.size=1 then vs[0]else .tuple vs)) ?_;rw[dif_neg L];rfl
inductive MR (ρ:Af):MD->FrameMode->Prop where
 |ret:MR ρ .ret .returning
 |AA (v:AV) (u:Value) (h:VR ρ v u):MR ρ (.AA v) (.panicking (fresh u))
 |Ka (v:AV) (u:Value) (h:VR ρ v u):MR ρ (.Ka v) (.panicking [{v:=u,recovered:=true}])
theorem MR.mono {ρ q:Af} (y:ρ.le q) {m:MD} {u:FrameMode} (h:MR ρ m u):MR q m u:=by
 cases h with
 |ret=>exact .ret
 |AA v u h=>exact .AA v u (h.mono y)
 |Ka v u h=>exact .Ka v u (h.mono y)
theorem MR.settle {ρ:Af} {m:MD} {u:FrameMode} (h:MR ρ m u):MR ρ m.settle (Go.settle u):=by
 cases h with
 |ret=>exact .ret
 |AA v u h=>exact .AA v u h
 |Ka v u h=>exact .ret
theorem MR.out {ρ:Af} {m:MD} {u:FrameMode} (h:MR ρ m u):u≠.run:=by cases h<;>simp
theorem Aps {F:Fence} {n:Nat} {P:Program} {Q:Exit->Act->List Frame->World->Prop} {a:Act} {cs:List Frame} {w:World} {id:Nat} {c:Code} (h:c.wpSIn F n P (λe a' cs' w'=>Exit.inBlock id (λe a' w'=>Q e a' cs' w') e a' w') a cs w):(Code.block id c).wpSIn F n P Q a cs w:=by
 intro b k U aa hb Y;have L:(lone (b.atR a (.code (.block id c)::k)) cs w).fenced P F:=fenced_calm hb Y rfl;obtain⟨e,C,q,B,O,K,y⟩:=h b (.inBlock id::k) U aa hb Y;have ab:F.room (q.length+1+n):=O▸Y;cases e with
 |normal=>exact⟨.normal,C,q,B,O,K,.head L stepR_block (StepsIn.trans y (.one (fenced_calm hb ab rfl) stepR_inBlock))⟩
 |exit E=>
  by_cases M:E=id
  ·simp only[Exit.inBlock,M,if_true]at K;exact⟨.normal,C,q,B,O,K,.head L stepR_block (y.1 k (by simp[exitTo,M]))⟩
  ·simp only[Exit.inBlock,M,if_false]at K;have this:(id==E)=false:=by simp;exactλh=>M h.symm
   have V:exitTo E (.inBlock id::k)=exitTo E k:=by simp[exitTo,this]
   exact⟨.exit E,C,q,B,O,K,λW R=>.head L stepR_block (y.1 W (by rw[V];exact R)),λS R=>let ⟨J,h1,Z⟩:=y.2 S (by rw[V];exact R);⟨J,h1,.head L stepR_block Z⟩⟩
 |goto l=>
  have V:gotoIn l (.inBlock id::k)=gotoIn l k:=by simp[gotoIn]
  exact⟨_,C,q,B,O,K,λW R=>.head L stepR_block (y.1 W (by rw[V];exact R)),λS R=>let ⟨J,h1,Z⟩:=y.2 S (by rw[V];exact R);⟨J,h1,.head L stepR_block Z⟩⟩
 |ret=>exact⟨_,C,q,B,O,K,.of_steps (.one L stepR_block) y⟩
 |panic ch=>exact⟨_,C,q,B,O,K,.of_steps (.one L stepR_block) y⟩
 |outgrown=>exact⟨_,C,q,B,O,K,.of_steps (.one L stepR_block) y⟩
theorem AjB {l:List Oper} {dst:Option Tmp} (h:U2 l=some dst):∃o args argTypes,l=[o]/\o.guard=none/\o.op=.call {callee:=.builtin .recover,args,argTypes}/\o.dst=dst:=by
 unfold U2 at h;split at h
 ·rename_i o;split at h
  ·rename_i y;split at h
   ·rename_i c q;obtain⟨callee,args,argTypes⟩:=c;simp only at h;split at h
    ·injection h with h;exact⟨o,args,argTypes,rfl,y,q,h⟩
    ·cases h
   ·cases h
  ·cases h
 ·cases h
theorem AjC {P:Program} {ops:Array Oper} {dst:Option Tmp} (B:U2 ops.toList=some dst) {id:Nat} {Q:Exit->Act->List Frame->World->Prop} {a:Act} {cs:List Frame} {w:World} (h:match recoverD cs with
   |some (v,cs')=>Q .normal (a.put dst v) cs' w
   |none=>Q .normal (a.put dst .nilIface) cs w):(Code.region id ops false).wpSIn (FW none) 0 P Q a cs w:=by
 obtain⟨o,args,argTypes,C,E,y,hd⟩:=AjB B;obtain rfl:ops= #[o]:=Array.ext' (by rw[C]);subst hd;refine wpSIn_region ?_;show wpOpsSIn (FW none) 0 P #[o] Q [0] a cs w;have q:(execOp a.eval o).run P w=.ok .recover w:=by unfold execOp;rw[y];simp only[resolve,Sem.run_bind,Sem.run_pure,Result.andThen_ok,invoke,builtin]
 have hw:Region.wanted o (yielded #[o] a.tmps)=true:=by unfold Region.wanted;rw[E]
 simp only[wpOpsSIn,List.getElem?_toArray,List.getElem?_cons_zero,hw,if_true,q];refine⟨λ_ _=>trivial,?_⟩;generalize recoverD cs=r at h⊢;cases r with
 |none=>exact h
 |some p=>exact h
theorem Ab1 {ρ:Af} {args:List AV} {vs:List Value} (h:AF ρ args vs) (m:Nat):TR ρ (setArgs args .leaf 0) (vs.toArray++Array.replicate m undef):=by
 intro t a ht;have key:∀(l:List AV) (c:Tr AV) (k j:Nat),(Qd l c k).get j=if k<=j/\j<k+l.length then l[j-k]? else c.get j:=by
  intro l
  induction l with
  |nil=>intro c k j;rw[if_neg (by simp)];rfl
  |cons x l E=>
   intro c k j;show(fN (k+1) λC=>Qd l (c.set k x) C).get j=_;rw[Bu,E];simp only[List.length_cons];by_cases B:k+1<=j/\j<k+1+l.length
   ·rw[if_pos B,if_pos (by omega),show j-k=(j-(k+1))+1 by omega];simp
   ·rw[if_neg B];by_cases y:j=k
    ·subst y;rw[if_pos (by omega),Nat.sub_self,Tr.F7];rfl
    ·rw[if_neg (by omega),Tr.Ks _ (λe=>y e.symm)]
 have q:(Qd args .leaf 0).get t=some a:=ht;rw[key]at q;split at q
 ·rename_i K;obtain⟨v,hv,J⟩:=h.get _ a q;refine⟨v,?_,J⟩;have L:=h.length;rw[Array.getElem?_append,if_pos (by simp;omega)];simpa using hv
 ·rw[Tr.Em]at q;cases q
theorem U9 {P:Program} {b:Frame} {a:Act} {k:List Item} {cs:List Frame} {w:World} {c:Code}:step P (lone (b.atR a (.code (.scope c)::k)) cs w)=.next (lone (b.atR a (.code c::.inScope c::k)) cs w):=
 step_lone_go (by simp[stepG,stepG.exec,Frame.atR])
theorem Aoe {P:Program} {b:Frame} {a:Act} {k:List Item} {cs:List Frame} {w:World} {c:Code}:step P (lone (b.atR a (.inScope c::k)) cs w)=.next (lone (b.atR a k) cs w):=
 step_lone_go (by simp[stepG,stepG.exec,Frame.atR])
theorem Apr {ro:Option Nat} {P:Program} {Q:Exit->Act->World->Prop} {a:Act} {w:World} {c:Code} (h:c.wpIn (FW ro) 0 P (λe Y w'=>(∀l,e≠.goto l)/\Q e Y w') a w):(Code.scope c).wpIn (FW ro) 0 P Q a w:=by
 intro b k cs M hb K;have C:(lone (b.atR a (.code (.scope c)::k)) cs w).fenced P (FW ro):=fenced_calm hb K rfl;obtain⟨e,B,y,⟨U,E⟩,q⟩:=h b (.inScope c::k) cs M hb K;cases e with
 |normal=>exact⟨.normal,B,y,E,.head C U9 (StepsIn.trans q (.one (fenced_calm hb K rfl) Aoe))⟩
 |exit id=>
  have R:exitTo id (.inScope c::k)=exitTo id k:=by simp[exitTo]
  exact⟨.exit id,B,y,E,λS L=>.head C U9 (q.1 S (by rw[R];exact L)),λO L=>let ⟨J,W,V⟩:=q.2 O (by rw[R];exact L);⟨J,W,.head C U9 V⟩⟩
 |goto l=>exact absurd rfl (U l)
 |ret=>exact⟨_,B,y,E,.of_steps (.one C U9) q⟩
 |panic Z=>exact⟨_,B,y,E,.of_steps (.one C U9) q⟩
 |outgrown=>exact⟨_,B,y,E,.of_steps (.one C U9) q⟩
end Go.Ev
end
end
