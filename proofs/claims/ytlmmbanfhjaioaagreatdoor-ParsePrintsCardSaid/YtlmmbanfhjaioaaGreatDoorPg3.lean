/- Laid by program out of its parts: PgG, PgH, PgI, PgJ, PgK. -/
import Derived.Test.YtlmmbanfhjaioaaGreatDoorPg2
set_option linter.unusedVariables false
set_option linter.unusedSimpArgs false
section
set_option maxRecDepth 100000
set_option maxHeartbeats 2000000
open Go Go.Ev
namespace Go.Proofs.YtlmmbanfhjaioaaGreatDoor
theorem Ac9 (L:Ak):∀(m a:Nat) (d:Int),L.length-a<=m->DF L a d≠0->∃x:PT,Xq L a (flat x)/\B9 x d/\DF L a d=a+sz x:=by
 intro m
 induction m with
 |zero=>intro a d h E;exact absurd (SD (.inl (by omega))) E
 |succ m ih=>
  intro a d ha E;by_cases h2:L.length<=a\/64<d
  ·exact absurd (SD h2) E
  by_cases C:L8 (L.getD a LT.none)=false
  ·exact absurd (jO C) E
  have C:L8 (L.getD a LT.none)=true:=by simpa using C
  have ab:∀(ks:AP) (i next:Nat) (l:AP) (r:Nat×AP),Hm L a d ks i next l=some r->a<next->next<=L.length->(L.getD a LT.none).kids.drop i=ks->
    ∃B:Av,ks=(Hr (next-a) B).map (· +(a:Int))/\r.1=next+BG B/\r.2=l++B.map PT.kind/\Cv (L.getD a LT.none).kind (L.getD a LT.none).text B i d/\next+BG B<=L.length/\
     ∀j,j<BG B->L.getD (next+j) LT.none=Cm a ((LG (next-a) B).getD j LT.none):=by
   intro ks
   induction ks with
   |nil=>
    intro i next l r q h5 h6 W
    rw[jR]at q;injection q with q;subst q;exact⟨[],rfl,by rw[Hf];rfl,by simp,by unfold Cv;trivial,by rw[Hf];exact h6,λj J=>by rw[Hf]at J;omega⟩
   |cons k ks aa=>
    intro i next l r q h5 h6 W
    by_cases hb:k≠(next:Int)\/L.length<=next\/next<=a
    ·rw[YE hb]at q;cases q
    by_cases hz:DF L next (d+E9 L (L.getD a LT.none) i next)=0
    ·rw[jT hz]at q;cases q
    rw[jS hb hz]at q;obtain⟨y,sg,wy,ey⟩:=ih next _ (by omega) hz
    have sl:=sg.le;have hp:=F9 y;have K:=(I0 y).1;rw[K]at sl;have ae:(L.getD a LT.none).kids.drop (i+1)=ks:=by rw[<-List.drop_drop,W];rfl
    have ad:(L.getD a LT.none).kids.getD i 0=k:=by have:=congrArg (λl=>l.getD 0 0) W;simpa[B2,List.getElem?_drop]using this
    have M:k=(next:Int):=by omega
    rw[ey]at q;obtain⟨B,S,e2,Z,Y,e5,R⟩:=aa _ _ _ _ q (by omega) (by omega) ae;have U:=sg.eq 0 (by omega);rw[Nat.add_zero]at U;have n0:=jB y;have k0:(L.getD next LT.none).kind=y.kind:=by rw[U];exact n0.1
    have t0:(L.getD next LT.none).text=y.text:=by rw[U];exact n0.2
    have hm:E9 L (L.getD a LT.none) i next=EB (L.getD a LT.none).kind (L.getD a LT.none).text i y:=by unfold E9 EB Jv;rw[ad,M,Int.toNat_natCast,k0,t0];simp only[BV]
    refine⟨y::B,?_,by rw[Cc,e2];omega,by rw[Z,k0,List.map_cons,A7];rfl,?_,by rw[Cc];omega,λj J=>?_⟩
    ·rw[QH,List.map_cons,show next-a+sz y=next+sz y-a by omega,<-S,M];congr 1;omega
    ·unfold Cv;exact⟨by rw[<-hm];exact wy,Y⟩
    ·rw[Cc]at J;rw[Pw];by_cases O:j<sz y
     ·rw[sg.eq j (by omega),B2 (l:=_++_),List.getElem?_append_left (by rw[FL,K];exact O),HB,B2,CC (by rw[K];exact O)];show Cm next _=Cm a (Cm ((next-a:Nat):Int) _)
      rw[mb];congr 1;omega
     ·have:=R (j-sz y) (by omega);rw[show next+sz y+(j-sz y)=next+j by omega,show next+sz y-a=next-a+sz y by omega]at this;rw[this,B2 (l:=_++_),List.getElem?_append_right (by rw[FL,K];omega),FL,K,<-B2]
  cases V:Hm L a d (L.getD a LT.none).kids 0 (a+1) []with
  |none=>exact absurd (jP V) E
  |some r=>
   obtain⟨B,S,e2,Z,Y,e5,R⟩:=ab _ _ _ _ _ V (by omega) (by omega) rfl;rw[jQ h2 C V]at E⊢;split at E
   ·rename_i q;rw[Am q];rw[show a+1-a=1 by omega]at S R;unfold L8 at C;simp only[C5,BV]at C;refine⟨.mk (L.getD a LT.none).kind (L.getD a LT.none).text (L.getD a LT.none).n (L.getD a LT.none).line (L.getD a LT.none).Ao B,⟨?_,λj J=>?_⟩,?_,by rw[e2,Im];omega⟩
    ·rw[NS,AE,Wu];omega
    ·rw[NS,AE,Wu]at J;rw[NS];cases j with
     |zero=>rw[Nat.add_zero,List.getD_cons_zero];unfold Cm;have:(L.getD a LT.none).kids=(Hr 1 B).map (· +(a:Int)):=S;generalize L.getD a LT.none=w at*;cases w;simp only at this⊢;rw[this]
     |succ j=>rw[List.getD_cons_succ,<-R j (by omega)];congr 1;omega
    ·unfold B9;rw[Z,Ei]at q;exact⟨by omega,⟨C.1,C.2.1,C.2.2⟩,q,Y⟩
   ·exact absurd rfl E
theorem AeO {L:Ak} (h:Js L=true):∃x:PT,Xq L 0 (flat x)/\B9 x 0/\sz x=L.length/\x.kind=1:=by
 unfold Js at h;simp only[C5,BV]at h;have y:DF L 0 0≠0:=by intro e;rw[e]at h;omega
 obtain⟨x,sg,wf,e⟩:=Ac9 L _ 0 0 (AM _) y;have q:=sg.eq 0 (by have:=F9 x;have:=(I0 x).1;omega);have n0:=(jB x).1;refine⟨x,sg,wf,by omega,?_⟩;rw[<-n0];rw[Nat.add_zero]at q;have:(L.getD 0 LT.none).kind=1:=by omega
 rw[q]at this;exact this
def Iz (k:Int) (s:Ac) (n:Int):LT:=⟨k,s,n,0,0,[]⟩
def L3 (k:Int) (s:Ac) (n:Int) (b:Bool) (K:List Ac) (ind:Ac):Ac:=
 if k=1 then Nq K else if k=12 then HW K ind else
 if k=8 then [99,111,109,112,32]++s++[32,111,110,32]++kd K 0++[32]++HW (K.drop 1) ind else
 if 26<=k/\k<=36 then GQ (Iz k s n) K else if 13<=k/\k<=25 then Et (Iz k s n) b K else Ff (Iz k s n) K
def PT.kids:PT->Av
 |.mk _ _ _ _ _ ks=>ks
def E6 (ks:Av):Bool:=decide (0<(ks.getD 2 Dm).kids.length)
def BC (k:Int) (s:Ac) (i:Nat) (y:PT):Bool:=decide (0<C7 y.kind y.text/\C7 y.kind y.text<Fo k s i)
mutual
def Hz:PT->Ac->Ac
 |.mk k s n _ _ ks,ind=>L3 k s n (E6 ks) (EA k s ks 0 ind) ind
def EA (k:Int) (s:Ac):Av->Nat->Ac->List Ac
 | [],_,_=>[]
 |y::q,i,ind=>M8 (BC k s i y) (Hz y (Ez k i ind))::EA k s q (i+1) ind
end
theorem AkW (w:LT) (K:List Ac):GQ w K=GQ (Iz w.kind w.text w.n) K:=rfl
theorem AkB (w:LT) (b:Bool) (K:List Ac):Et w b K=Et (Iz w.kind w.text w.n) b K:=rfl
theorem Abx (w:LT) (K:List Ac):Ff w K=Ff (Iz w.kind w.text w.n) K:=rfl
theorem AkC (w:LT) (b c:Bool) (K:List Ac) (h:w.kind=23->b=c):Et w b K=Et w c K:=by
 by_cases e:w.kind=23
 ·rw[h e]
 ·unfold Et;simp only[e,if_false]
theorem iu (L:Ak) (w:LT) (b:Bool) (K:List Ac) (ind:Ac) (h:w.kind=23->Fg L w=b):Iy L w K ind=L3 w.kind w.text w.n b K ind:=by unfold Iy L3;rw[AkW,AkC w (Fg L w) b K h,AkB,Abx]
theorem ji (k:Int) (s:Ac):∀(ks:Av) (i:Nat) (ind:Ac),(EA k s ks i ind).length=ks.length
 | [],_,_=>by unfold EA;rfl
 |y::q,i,ind=>by unfold EA;rw[AE,AE,ji]
theorem uO (k:Int) (s:Ac):∀(ks:Av) (i j:Nat) (ind:Ac),j<ks.length->(EA k s ks i ind).getD j []=M8 (BC k s (i+j) (ks.getD j Dm)) (Hz (ks.getD j Dm) (Ez k (i+j) ind))
 |y::q,i,0,ind,_=>by unfold EA;rfl
 |y::q,i,j+1,ind,h=>by unfold EA;rw[List.getD_cons_succ,List.getD_cons_succ,uO k s q (i+1) j ind (by simpa using h),show i+1+j=i+(j+1) by omega]
theorem MQ {A B:List Ac} (h:A.length=B.length) (g:∀i,i<A.length->A.getD i []=B.getD i []):A=B:=by apply List.ext_getElem h;intro i q y;have:=g i q;rw[B2,B2,CC q,CC y]at this;exact this
theorem AdS (N:Nat) (L:Ak) (a:Nat) (ind:Ac) {m j:Nat} (h:j<m):(CO N L a ind m).getD j []=KH N L a ind j:=by unfold CO;rw[B2,HB,OI h];rfl
theorem AkY:∀(N:Nat) (L:Ak) (a:Nat) (ind:Ac) (x:PT),Ji N L a ind x->E5 N L a ind=Hz x ind:=by
 intro N
 induction N with
 |zero=>intro L a ind x h;have:=h.mr;have:=F9 x;omega
 |succ N M=>
  intro L a ind x h;obtain⟨k,s,n,l,c,ks⟩:=x;have r:=nL h;have O:CO N L a ind ks.length=EA k s ks 0 ind:=by
   refine MQ (by rw[O2,ji]) λi B=>?_
   ·rw[O2]at B;rw[uO k s ks 0 i ind B,AdS _ _ _ _ B,Nat.zero_add];unfold KH;have E:=r.sub i B (Ez k i ind) (X7 _ _ _);have q:=E.bQ.eq 0 (by rw[(I0 _).1];exact F9 _);rw[Nat.add_zero]at q;have n0:=jB (ks.getD i Dm);have K:(L.getD (a+1+BG (ks.take i)) LT.none).kind=(ks.getD i Dm).kind:=by rw[q];exact n0.1
    have t0:(L.getD (a+1+BG (ks.take i)) LT.none).text=(ks.getD i Dm).text:=by rw[q];exact n0.2
    have J:Jv L (L.getD a LT.none) i=BC k s i (ks.getD i Dm):=by unfold Jv BC;rw[r.H9 i B,Int.toNat_natCast,r.kind,r.text,K,t0]
    rw[J,r.H9 i B,Int.toNat_natCast,r.kind,M L _ _ _ E]
  show Iy L (L.getD a LT.none) (CO N L a ind (L.getD a LT.none).kids.length) ind=_;rw[r.YR,O,iu L _ (E6 ks) _ _ λe=>?_,r.kind,r.text,r.num]
  ·unfold Hz;rfl
  ·rw[r.kind]at e;have km:=r.km;rw[e]at km;have R:=jj km;rw[FL]at R;have E:=r.sub 2 (by omega) ind (by omega);unfold Fg E6;rw[r.H9 2 (by omega),Int.toNat_natCast];generalize ks.getD 2 Dm=y at*;obtain⟨V,s',S,U,W,C⟩:=y;have q:=E.bQ.eq 0 (by rw[(I0 _).1];exact F9 _);rw[Nat.add_zero,NS,List.getD_cons_zero]at q;rw[q];show decide (0<((Hr 1 C).map _).length)=decide (0<C.length);rw[FL,Zf]
abbrev Sp:=Int×List UInt8×Int
def y6 (t:Tok):Sp:=(t.kind,t.text,t.num)
def Sc (s:Ac) (T:List Sp) (m:Ac):Prop:=∀L C:Int,∃(U:List Tok) (q y:Int),U.map y6=T/\K2 (s++m) L C=(U++(K2 m q y).1,(K2 m q y).2)
def Stop (m:Ac):Prop:=m=[]\/∃c q,m=c::q/\(C9 (c.toNat:Int)||Bp (c.toNat:Int))=false
def AF (c:UInt8):Sp:=(4,[c],0)
def Az (s:Ac):Sp:=(2,s,0)
def B4 (s:Ac):Sp:=(1,s,0)
def Ka (n:Int):Sp:=(3,Ek n.toNat,n)
theorem Py (m:Ac):Sc [] [] m:=λL C=>⟨[],L,C,rfl,rfl⟩
theorem A0 {s s' m:Ac} {T T':List Sp} (h:Sc s T (s'++m)) (h':Sc s' T' m):Sc (s++s') (T++T') m:=λL C=>by obtain⟨U,M,R,E,B⟩:=h L C;obtain⟨J,K,O,y,q⟩:=h' M R;refine⟨U++J,K,O,by rw[List.map_append,E,y],?_⟩;rw[A7,B,q,A7]
theorem GP {c:UInt8} (hc:c=32\/c=10) (m:Ac):Sc [c] [] m:=λL C=>by
 have q:Bs (c::m)=(0,1):=by rw[Od];rcases hc with rfl|rfl<;>rfl
 have y:EP c m L C=([],[]):=by
  unfold EP;dsimp only
  rw[q];rcases hc with rfl|rfl<;>rfl
 rw[List.singleton_append,WD,q,y];exact⟨[],_,_,rfl,rfl⟩
theorem WC {b:UInt8} {u m:Ac} {c k n:Int} (h:Bs (b::(u++m))=(c,u.length+1)) (hc:0<c) (q:¬b=10) (B:D4 c (b::u)=(k,n,0)):Sc (b::u) [(k,b::u,n)] m:=λL C=>by
 have ht:(b::(u++m)).take (u.length+1)=b::u:=by rw[<-List.cons_append];exact List.take_left' rfl
 have hd:(b::(u++m)).drop (u.length+1)=m:=by rw[<-List.cons_append];exact List.drop_left' rfl
 refine⟨[⟨k,b::u,n,L,C⟩],L,C+(u.length+1:Nat),rfl,?_⟩;have y:EP b (u++m) L C=([⟨k,b::u,n,L,C⟩],[]):=by
  unfold EP;dsimp only
  rw[h];dsimp only
  rw[ht,Am hc,B];rfl
 rw[List.cons_append,WD,h,y,Ad q,Ad q];dsimp only
 rw[hd];rfl
theorem mH {p:Int->Bool} (q:∀z,(C9 z||Bp z)=false->p z=false) {m:Ac} (y:Stop m):∀l:Ac,(∀b∈l,p ((b:UInt8).toNat:Int)=true)->runN p (l++m)=l.length
 | [],_=>by
  rcases y with rfl|⟨c,B,rfl,hc⟩
  ·rfl
  ·show runN p (c::B)=0;unfold runN;rw[Ad (by rw[q _ hc];simp)]
 |b::l,h=>by rw[List.cons_append,runN,Am (h b BN),mH q y l λx C=>h x (Ca _ C),AE]
theorem xq {s m:Ac} {k:Int} (C:Stop m) (y:C9 ((s.getD 0 0).toNat:Int)=true) (B:s≠[]) (K:∀b∈s,(C9 ((b:UInt8).toNat:Int)||Bp (b.toNat:Int))=true) (L:s.length<=32) (E:k=if DC s then 2 else 1):Sc s [(k,s,0)] m:=by
 cases s with
 |nil=>exact absurd rfl B
 |cons b u=>
  have y:C9 (b.toNat:Int)=true:=y;have J:¬b=10:=λe=>by subst e;exact absurd y (by decide)
  refine WC (c:=1) ?_ (by decide) J ?_
  ·rw[Od,Am y,<-List.cons_append,mH (p:=λz=>C9 z||Bp z) (λz hz=>hz) C _ K,AE]
  ·unfold D4;rw[Ad (by decide),E];by_cases q:DC (b::u)=true
   ·rw[Am ⟨rfl,q⟩,Am q]
   ·rw[Ad (λe=>q e.2),Ad (by omega),Ad q]
theorem E4 {c:UInt8} (hc:c=123\/c=125\/c=40\/c=41\/c=91\/c=93\/c=59\/c=46\/c=43\/c=45\/c=42\/c=60) (m:Ac):Sc [c] [AF c] m:=by
 refine WC (c:=4) (u:=[]) ?_ (by decide) ?_ ?_
 ·rw[Ei,Od];rcases hc with rfl|rfl|rfl|rfl|rfl|rfl|rfl|rfl|rfl|rfl|rfl|rfl<;>rfl
 ·rcases hc with rfl|rfl|rfl|rfl|rfl|rfl|rfl|rfl|rfl|rfl|rfl|rfl<;>decide
 ·unfold D4;rw[Ad (by decide),Ad (λe=>absurd e.1 (by decide)),Ad (by simp)]
theorem Aj0 (m:Ac):Sc [61] [AF 61] (32::m):=by
 refine WC (c:=4) (u:=[]) ?_ (by decide) (by decide) ?_
 ·rw[Ei,Od];rfl
 ·unfold D4;rw[Ad (by decide),Ad (λe=>absurd e.1 (by decide)),Ad (by simp)]
theorem AjZ (m:Ac):Sc [61,61] [(4,[61,61],0)] m:=by
 refine WC (c:=4) (u:=[61]) ?_ (by decide) (by decide) ?_
 ·rw[Od,Ad (by decide),Ad (by decide),Ad (by decide),Am ⟨rfl,by simp,rfl⟩];rfl
 ·unfold D4;rw[Ad (by decide),Ad (λe=>absurd e.1 (by decide)),Ad (by simp)]
theorem r6 (n:Nat):((UInt8.ofNat (48+n %10)).toNat:Int)=48+((n %10:Nat):Int):=by
 have:(UInt8.ofNat (48+n %10)).toNat=48+n %10:=by show(48+n %10)%256=_;omega
 omega
theorem rZ (n:Nat):Bp ((UInt8.ofNat (48+n %10)).toNat:Int)=true:=by rw[r6,Vk];omega
theorem AbF:∀(n:Nat) (s:Ac),(∀b∈s,Bp ((b:UInt8).toNat:Int)=true)->∀b∈HE n s,Bp ((b:UInt8).toNat:Int)=true:=by
 intro n
 induction n using Nat.strongRecOn with
 |_ n B=>
  intro s y;rw[HE];split
  ·exact y
  ·rename_i h;refine B (n/10) (by omega) _ λb q=>?_;rcases CS.1 q with rfl|q
   ·exact rZ n
   ·exact y b q
theorem AbI:∀(n:Nat) (s:Ac),s.length<=(HE n s).length:=by
 intro n
 induction n using Nat.strongRecOn with
 |_ n q=>
  intro s;rw[HE];split
  ·exact AM _
  ·rename_i h;have:=q (n/10) (by omega) (UInt8.ofNat (48+n %10)::s);rw[AE]at this;omega
theorem rY (n:Nat):Ek n≠[]:=by
 unfold Ek;split
 ·simp
 ·rename_i h;rw[HE,dif_neg h];intro e;have:=AbI (n/10) [UInt8.ofNat (48+n %10)];rw[e]at this;simp at this
theorem AbC (n:Nat):∀b∈Ek n,Bp ((b:UInt8).toNat:Int)=true:=by
 unfold Ek;split
 ·intro b q;rw[DE.1 q];decide
 ·exact AbF n [] λb q=>nomatch q
theorem Ae0:∀(n:Nat) (s:Ac),HF 0 (HE n s)=HF n s:=by
 intro n
 induction n using Nat.strongRecOn with
 |_ n q=>
  intro s;rw[HE];split
  ·rename_i h;subst h;rfl
  ·rename_i h;rw[q (n/10) (by omega),HF,Am (rZ n),r6];congr 1;omega
theorem Ae1 {n:Nat} (h:n<=2147483647):GL (Ek n)=((n:Int),true):=by
 unfold GL;rw[Ad (rY n)];unfold Ek;split
 ·rename_i e;subst e;rfl
 ·rw[Ae0,HF,Am (by omega)]
theorem AbJ {b:UInt8} (h:Bp (b.toNat:Int)=true):C9 (b.toNat:Int)=false:=by
 have h:=Vk.1 h;generalize(b.toNat:Int)=z at*;have:z=48\/z=49\/z=50\/z=51\/z=52\/z=53\/z=54\/z=55\/z=56\/z=57:=by omega
 rcases this with rfl|rfl|rfl|rfl|rfl|rfl|rfl|rfl|rfl|rfl<;>decide
theorem xw {n:Int} {m:Ac} (E:0<=n) (J:n<=2147483647) (C:Stop m):Sc (Ek n.toNat) [Ka n] m:=by
 have B:=AbC n.toNat;have y:=rY n.toNat;have hn:=Ae1 (n:=n.toNat) (by omega);unfold Ka;generalize Ek n.toNat=s at*;cases s with
 |nil=>exact absurd rfl y
 |cons b u=>
  have q:=B b BN;refine WC (c:=3) ?_ (by decide) (λe=>by subst e;exact absurd q (by decide)) ?_
  ·rw[Od,Ad (by rw[AbJ q];simp),Am q,<-List.cons_append,mH (p:=Bp) (λz hz=>(Bool.or_eq_false_iff.1 hz).2) C _ B,AE]
  ·unfold D4;rw[Am rfl,hn,Am rfl];show(3,((n.toNat:Nat):Int),0)=_;rw[Int.toNat_of_nonneg E]
theorem kK {s:Ac} (h:G9 s=true):C9 ((s.getD 0 0).toNat:Int)=true/\s≠[]/\(∀b∈s,(C9 ((b:UInt8).toNat:Int)||Bp (b.toNat:Int))=true)/\s.length<=32/\DC s=false:=by
 unfold G9 at h;simp only[C5,BV,List.all_eq_true,List.mem_range,EH]at h;obtain⟨y,q,J,E⟩:=h;have B:0<s.length:=List.length_pos_iff.2 q;refine⟨?_,q,λb C=>?_,J,E⟩
 ·have:=y 0 B;unfold Kx at this;rw[uo]at this;simpa using this
 ·obtain⟨i,hi,rfl⟩:=List.getElem_of_mem C;have:=y i hi;unfold Kx at this;rw[B2,CC hi,uo]at this;simp only[Option.getD_some,Bool.or_eq_true,C5]at this⊢;rcases this with g|g
  ·exact .inl g
  ·exact .inr g.2
theorem JH {s m:Ac} (h:G9 s=true) (q:Stop m):Sc s [B4 s] m:=by obtain⟨J,E,C,B,y⟩:=kK h;exact xq q J E C B (by rw[Ad (by rw[y];simp)])
def okW (s:Ac):Bool:=DC s&&(C9 ((s.getD 0 0).toNat:Int)&&(decide (s≠[])&&(decide (s.length<=32)&&s.all λb=>C9 ((b:UInt8).toNat:Int)||Bp (b.toNat:Int))))
theorem Um {s m:Ac} (h:okW s=true) (q:Stop m):Sc s [Az s] m:=by unfold okW at h;simp only[C5,BV,List.all_eq_true]at h;obtain⟨J,E,C,B,y⟩:=h;exact xq q E C y B (by rw[Am J])
end Go.Proofs.YtlmmbanfhjaioaaGreatDoor
end
section
set_option maxRecDepth 100000
set_option maxHeartbeats 4000000
open Go Go.Ev
namespace Go.Proofs.YtlmmbanfhjaioaaGreatDoor
def kq (T:List (List Sp)) (i:Nat):List Sp:=T.getD i []
def Nw (s:Ac):Sp:=if DC s=true then Az s else B4 s
def yl (k:Int) (s:Ac) (n:Int) (T:List (List Sp)):List Sp:=
 if k=26 then [Ka n]else if k=27 then [Az [110,117,108,108]]else if k=28 then [Az [105,116]]else
 if k=30 then kq T 0++([AF 46]++[B4 s])else if k=31 then kq T 0++([AF 91]++(kq T 1++[AF 93]))else
 if k=32 then kq T 0++([]++([(4,s,0)]++([]++kq T 1)))else if k=33 then [Az [110,101,119]]++[B4 s]else
 if k=34 then [Az [97,114,114]]++kq T 0 else if k=35 then [Az [108,101,110]]++kq T 0 else
 if k=36 then [Az [102,110]]++kq T 0 else [B4 s]
def M3 (n:Int):Ac:=if n=0 then [99,114,101,97,116,101]else if n=1 then [115,116,97,114,116]else if n=2 then [115,116,111,112]else [100,101,115,116,114,111,121]
def M7 (n:Int):Ac:=if n=0 then [111,102,102]else [111,110]
def rX (k:Int) (s:Ac) (n:Int) (T:List (List Sp)):List Sp:=
 if k=2 then [Az [108,111,111,112,101,114]]++([B4 s]++[AF 59])else
 if k=3 then [Az [99,108,97,115,115]]++([B4 s]++([AF 123]++(T.flatten++[AF 125])))else
 if k=4 then [B4 s]++([]++(kq T 0++[AF 59]))else
 if k=6 then [Az [118,97,114]]++([B4 s]++([]++(kq T 0++[AF 59])))else
 if k=7 then [Az [102,110]]++([B4 s]++([]++kq T 0))else
 if k=9 then [Az (M3 n)]++kq T 0 else
 if k=10 then [Az [101,118,101,110,116]]++([B4 s]++([Az [111,110]]++(kq T 0++([Az (M7 n)]++kq T 1))))else
 if k=11 then [Az [109,97,105,110]]++kq T 0 else [Nw s]
def toQ (k:Int) (T:List (List Sp)):List Sp:=if(k=19\/k=20)/\1<T.length then [Az [116,111]]++kq T 1 else []
def y4 (k:Int) (s:Ac) (n:Int) (b:Bool) (T:List (List Sp)):List Sp:=
 if k=13 then [Az [118,97,114]]++([B4 s]++([]++(kq T 0++([AF 61]++(kq T 1++[AF 59])))))else
 if k=14 then kq T 0++([AF 61]++(kq T 1++[AF 59]))else
 if k=15 then [Az [99,97,108,108]]++(kq T 0++[AF 59])else
 if k=16 then [Az [99,97,110,99,101,108]]++(kq T 0++[AF 59])else
 if k=17 then [Az [106,111,105,110]]++(kq T 0++[AF 59])else
 if k=18 then [Az [108,111,103]]++(kq T 0++[AF 59])else
 if k=19 then [Az [112,111,115,116]]++([B4 s]++([]++(kq T 0++((if 0<n then [Az [97,102,116,101,114]]++[Ka n]else if n<0 then [Az [102,114,111,110,116]]else [])++(toQ k T++[AF 59])))))else
 if k=20 then [Az [115,112,97,119,110]]++(kq T 0++(toQ k T++[AF 59]))else
 if k=21 then [Az [101,110,97,98,108,101]]++([B4 s]++[AF 59])else
 if k=22 then [Az [100,105,115,97,98,108,101]]++([B4 s]++[AF 59])else
 if k=24 then [Az [119,104,105,108,101]]++(kq T 0++([]++kq T 1))else
 if k=23 then [Az [105,102]]++(kq T 0++([]++(kq T 1++(if b=true then [Az [101,108,115,101]]++kq T 2 else []))))else
 [Az [114,101,116,117,114,110]]++[AF 59]
def H3 (k:Int) (s:Ac) (n:Int) (b:Bool) (T:List (List Sp)):List Sp:=
 if k=1 then T.flatten else if k=12 then [AF 123]++(T.flatten++[AF 125])else
 if k=8 then [Az [99,111,109,112]]++([B4 s]++([Az [111,110]]++(kq T 0++([]++([AF 123]++((T.drop 1).flatten++[AF 125]))))))else
 if 26<=k/\k<=36 then yl k s n T else if 13<=k/\k<=25 then y4 k s n b T else rX k s n T
def BR (b:Bool) (T:List Sp):List Sp:=if b=true then [AF 40]++(T++[AF 41])else T
mutual
def AR:PT->List Sp
 |.mk k s n _ _ ks=>H3 k s n (E6 ks) (BL k s ks 0)
def BL (k:Int) (s:Ac):Av->Nat->List (List Sp)
 | [],_=>[]
 |y::q,i=>BR (BC k s i y) (AR y)::BL k s q (i+1)
end
def Is:List Ac->List (List Sp)->Prop
 | [],[]=>True
 |t::K,q::T=>(∀m,Stop m->Sc t q m)/\Is K T
 |_,_=>False
theorem M0:∀ {K:List Ac} {T:List (List Sp)} (h:Is K T) (j:Nat) (m:Ac),Stop m->Sc (kd K j) (kq T j) m
 | [],[],_,j,m,_=>by unfold kd kq;rw[List.getD_nil,List.getD_nil];exact Py m
 |t::K,q::T,h,0,m,y=>h.1 m y
 |t::K,q::T,h,j+1,m,y=>M0 (K:=K) (T:=T) h.2 j m y
theorem uc:∀ {K:List Ac} {T:List (List Sp)} (h:Is K T),K.length=T.length
 | [],[],_=>rfl
 |t::K,q::T,h=>by rw[AE,AE,uc (K:=K) (T:=T) h.2]
theorem Aec:∀ {K:List Ac} {T:List (List Sp)} (h:Is K T),Is (K.drop 1) (T.drop 1)
 | [],[],h=>h
 |t::K,q::T,h=>h.2
theorem Il {c:UInt8} {m:Ac} (h:(C9 (c.toNat:Int)||Bp (c.toNat:Int))=false):Stop (c::m):=.inr ⟨c,m,rfl,h⟩
theorem F7 {w:Ac} (h:okW w=true) (m:Ac):Sc (w++[32]) [Az w] m:=by have:=A0 (T':=[]) (Um (m:=[32]++m) h (Il (by decide))) (GP (.inl rfl) m);rwa[HD]at this
theorem Ul {w:Ac} (h:okW w=true) (m:Ac):Sc ([32]++(w++[32])) [Az w] m:=A0 (T:=[]) (GP (.inl rfl) _) (F7 h m)
theorem AjX {w m:Ac} (h:okW w=true) (q:Stop m):Sc ([32]++w) [Az w] m:=A0 (T:=[]) (GP (.inl rfl) _) (Um h q)
theorem xy (m:Ac):Sc [32,61,32] [AF 61] m:=A0 (s:=[32]) (T:=[]) (s':=[61,32]) (GP (.inl rfl) _) (A0 (s:=[61]) (s':=[32]) (T:=[AF 61]) (T':=[]) (Aj0 m) (GP (.inl rfl) m))
theorem xo {c:UInt8} (hc:c=123\/c=125\/c=40\/c=41\/c=91\/c=93\/c=59\/c=46\/c=43\/c=45\/c=42\/c=60) (m:Ac):Sc ([32]++[c]) [AF c] m:=A0 (T:=[]) (GP (.inl rfl) _) (E4 hc m)
theorem bP:∀ {ind:Ac},(∀c∈ind,(c:UInt8)=32)->∀m,Sc ind [] m
 | [],_,m=>Py m
 |c::ind,h,m=>A0 (s:=[c]) (T:=[]) (GP (.inl (h c BN)) _) (bP (λx q=>h x (Ca _ q)) m)
theorem xx:∀ {K:List Ac} {T:List (List Sp)} (h:Is K T) (m:Ac),Sc (Nq K) T.flatten m
 | [],[],_,m=>Py m
 |t::K,q::T,h,m=>by show Sc ((t++[10])++Nq K) (q++T.flatten) m;rw[A7];exact A0 (h.1 _ (Il (c:=10) (by decide))) (A0 (s:=[10]) (T:=[]) (GP (.inr rfl) _) (xx (K:=K) (T:=T) h.2 m))
theorem xu {ind:Ac} (hi:∀c∈ind,(c:UInt8)=32):∀ {K:List Ac} {T:List (List Sp)} (h:Is K T) (m:Ac),Sc (N8 K ind) T.flatten m
 | [],[],_,m=>Py m
 |t::K,q::T,h,m=>by show Sc ((ind++[32,32]++t++[10])++N8 K ind) (q++T.flatten) m;rw[A7,A7,A7];exact A0 (T:=[]) (bP hi _) (A0 (s:=[32,32]) (T:=[]) (bP (by simp) _) (A0 (h.1 _ (Il (c:=10) (by decide))) (A0 (s:=[10]) (T:=[]) (GP (.inr rfl) _) (xu hi (K:=K) (T:=T) h.2 m))))
theorem xv:∀ {K:List Ac} {T:List (List Sp)} (h:Is K T) (m:Ac),Stop m->Sc (Oa K) T.flatten m
 | [],[],_,m,_=>Py m
 |t::K,q::T,h,m,y=>by
  show Sc (([32]++t)++Oa K) (q++T.flatten) m;rw[A7];refine A0 (T:=[]) (GP (.inl rfl) _) (A0 (h.1 _ ?_) (xv (K:=K) (T:=T) h.2 m y));cases K with
  |nil=>exact y
  |cons B C=>exact Il (c:=32) (by decide)
theorem xp {ind:Ac} (hi:∀c∈ind,(c:UInt8)=32) {K:List Ac} {T:List (List Sp)} (h:Is K T) (m:Ac):Sc (HW K ind) ([AF 123]++(T.flatten++[AF 125])) m:=by
 unfold HW;split
 ·rename_i e;subst e;cases T with
  |nil=>exact A0 (s:=[123]) (E4 (.inl rfl) _) (A0 (s:=[32]) (s':=[125]) (T:=[]) (T':=[AF 125]) (GP (.inl rfl) _) (E4 (.inr (.inl rfl)) _))
  |cons q T=>exact absurd h (by unfold Is;exactλh=>h)
 ·rw[A7,A7];refine A0 (s:=[123,10]) (T:=[AF 123]) (A0 (s:=[123]) (s':=[10]) (T:=[AF 123]) (T':=[]) (E4 (.inl rfl) _) (GP (.inr rfl) _)) (A0 (xu hi h _) (A0 (T:=[]) (bP hi _) (E4 (.inr (.inl rfl)) _)))
theorem Kh {k:Int} {s:Ac} (h:Fv k s=true) (q:k=2\/k=3\/k=4\/k=6\/k=7\/k=8\/k=10\/k=13\/k=19\/k=21\/k=22\/k=29\/k=30\/k=33):G9 s=true:=by unfold Fv at h;rw[Ad (by omega),Ad (by omega),Am q]at h;exact h
theorem Aj4 {k:Int} {s:Ac} {n:Int} {K:List Ac} {T:List (List Sp)} {m:Ac} (C:26<=k/\k<=36) (ht:Fv k s=true) (hn:E2 k n=true) (h:Is K T) (q:Stop m):Sc (GQ (Iz k s n) K) (yl k s n T) m:=by
 have y:=M0 h 0;have E:=M0 h 1;have C:k=26\/k=27\/k=28\/k=29\/k=30\/k=31\/k=32\/k=33\/k=34\/k=35\/k=36:=by omega
 rcases C with rfl|rfl|rfl|rfl|rfl|rfl|rfl|rfl|rfl|rfl|rfl
 ·show Sc (Ek n.toNat) [Ka n] m;have:=Bt (show decide (0<=n/\n<=2147483647)=true from hn);exact xw this.1 this.2 q
 ·exact Um (s:=[110,117,108,108]) (by decide+kernel) q
 ·exact Um (s:=[105,116]) (by decide+kernel) q
 ·exact JH (Kh ht (by decide)) q
 ·show Sc (kd K 0++[46]++s) (kq T 0++([AF 46]++[B4 s])) m;rw[A7];exact A0 (y _ (Il (c:=46) (by decide))) (A0 (s:=[46]) (E4 (by decide) _) (JH (Kh ht (by decide)) q))
 ·show Sc (kd K 0++[91]++kd K 1++[93]) (kq T 0++([AF 91]++(kq T 1++[AF 93]))) m;rw[A7,A7];exact A0 (y _ (Il (c:=91) (by decide))) (A0 (s:=[91]) (E4 (by decide) _) (A0 (E _ (Il (c:=93) (by decide))) (E4 (by decide) _)))
 ·show Sc (kd K 0++[32]++s++[32]++kd K 1) (kq T 0++([]++([(4,s,0)]++([]++kq T 1)))) m;rw[A7,A7,A7];have B:QK s=true:=ht;unfold QK at B;have J:∀r,Sc s [(4,s,0)] (32::r):=λr=>by
   rcases Bt B with rfl|rfl|rfl|rfl|rfl
   ·exact E4 (by decide) _
   ·exact E4 (by decide) _
   ·exact E4 (by decide) _
   ·exact E4 (by decide) _
   ·exact AjZ _
  exact A0 (y _ (Il (c:=32) (by decide))) (A0 (s:=[32]) (T:=[]) (GP (.inl rfl) _) (A0 (J _) (A0 (s:=[32]) (T:=[]) (GP (.inl rfl) _) (E m q))))
 ·exact A0 (s:=[110,101,119,32]) (F7 (w:=[110,101,119]) (by decide+kernel) _) (JH (Kh ht (by decide)) q)
 ·exact A0 (s:=[97,114,114,32]) (F7 (w:=[97,114,114]) (by decide+kernel) _) (y m q)
 ·exact A0 (s:=[108,101,110,32]) (F7 (w:=[108,101,110]) (by decide+kernel) _) (y m q)
 ·exact A0 (s:=[102,110,32]) (F7 (w:=[102,110]) (by decide+kernel) _) (y m q)
theorem Aj5 {s m:Ac} (h:Jg s=true) (q:Stop m):Sc s [Nw s] m:=by
 unfold Jg at h;unfold Nw;rcases Bool.or_eq_true _ _▸h with h|h
 ·rcases Bt h with rfl|rfl|rfl|rfl|rfl
  all_goals
   rw[Am (by decide+kernel)];exact Um (by decide+kernel) q
 ·rw[Ad (by rw[(kK h).2.2.2.2];simp)];exact JH h q
theorem AjY {k:Int} {s:Ac} {n:Int} {K:List Ac} {T:List (List Sp)} {m:Ac} (J:k=2\/k=3\/k=4\/k=5\/k=6\/k=7\/k=9\/k=10\/k=11) (ht:Fv k s=true) (hn:E2 k n=true) (h:Is K T) (C:Stop m):Sc (Ff (Iz k s n) K) (rX k s n T) m:=by
 have B:=M0 h 0;have L:=M0 h 1;have q:∀r,Stop (32::r):=λr=>Il (by decide);have y:∀r,Stop (59::r):=λr=>Il (by decide);rcases J with rfl|rfl|rfl|rfl|rfl|rfl|rfl|rfl|rfl
 ·show Sc ([108,111,111,112,101,114,32]++s++[59]) ([Az [108,111,111,112,101,114]]++([B4 s]++[AF 59])) m;rw[A7];exact A0 (F7 (w:=[108,111,111,112,101,114]) (by decide+kernel) _) (A0 (JH (Kh ht (by decide)) (y _)) (E4 (by decide) _))
 ·show Sc ([99,108,97,115,115,32]++s++[32,123]++Oa K++[32,125]) ([Az [99,108,97,115,115]]++([B4 s]++([AF 123]++(T.flatten++[AF 125])))) m;rw[A7,A7,A7];exact A0 (F7 (w:=[99,108,97,115,115]) (by decide+kernel) _) (A0 (JH (Kh ht (by decide)) (q _)) (A0 (xo (by decide) _) (A0 (xv h _ (q _)) (xo (by decide) _))))
 ·show Sc (s++[32]++kd K 0++[59]) ([B4 s]++([]++(kq T 0++[AF 59]))) m;rw[A7,A7];exact A0 (JH (Kh ht (by decide)) (q _)) (A0 (GP (.inl rfl) _) (A0 (B _ (y _)) (E4 (by decide) _)))
 ·exact Aj5 ht C
 ·show Sc ([118,97,114,32]++s++[32]++kd K 0++[59]) ([Az [118,97,114]]++([B4 s]++([]++(kq T 0++[AF 59])))) m;rw[A7,A7,A7];exact A0 (F7 (w:=[118,97,114]) (by decide+kernel) _) (A0 (JH (Kh ht (by decide)) (q _)) (A0 (GP (.inl rfl) _) (A0 (B _ (y _)) (E4 (by decide) _))))
 ·show Sc ([102,110,32]++s++[32]++kd K 0) ([Az [102,110]]++([B4 s]++([]++kq T 0))) m;rw[A7,A7];exact A0 (F7 (w:=[102,110]) (by decide+kernel) _) (A0 (JH (Kh ht (by decide)) (q _)) (A0 (GP (.inl rfl) _) (B m C)))
 ·show Sc (Qz n++kd K 0) ([Az (M3 n)]++kq T 0) m;have:Qz n=M3 n++[32]:=by
   unfold Qz M3;by_cases a:n=0
   ·rw[Am a,Am a];rfl
   rw[Ad a,Ad a];by_cases b:n=1
   ·rw[Am b,Am b];rfl
   rw[Ad b,Ad b];by_cases c:n=2
   ·rw[Am c,Am c];rfl
   ·rw[Ad c,Ad c];rfl
  rw[this];refine A0 (F7 ?_ _) (B m C);unfold M3;split
  ·decide+kernel
  split
  ·decide+kernel
  split<;>decide+kernel
 ·show Sc ([101,118,101,110,116,32]++s++[32,111,110,32]++kd K 0++QI n++kd K 1) ([Az [101,118,101,110,116]]++([B4 s]++([Az [111,110]]++(kq T 0++([Az (M7 n)]++kq T 1))))) m;have:QI n=[32]++(M7 n++[32]):=by
   unfold QI M7;by_cases a:n=0
   ·rw[Am a,Am a];rfl
   ·rw[Ad a,Ad a];rfl
  rw[this,A7,A7,A7,A7];have E:okW (M7 n)=true:=by unfold M7;split<;>decide+kernel
  exact A0 (F7 (w:=[101,118,101,110,116]) (by decide+kernel) _) (A0 (JH (Kh ht (by decide)) (q _)) (A0 (Ul (w:=[111,110]) (by decide+kernel) _) (A0 (B _ (q _)) (A0 (Ul E _) (L m C)))))
 ·exact A0 (s:=[109,97,105,110,32]) (F7 (w:=[109,97,105,110]) (by decide+kernel) _) (B m C)
theorem yA {k:Int} {s:Ac} {n:Int} {K:List Ac} {T:List (List Sp)} (h:Is K T) (r:Ac):Sc (Eu (Iz k s n) K) (toQ k T) (59::r):=by
 unfold Eu toQ;rw[uc h];show Sc (if(k=19\/k=20)/\1<T.length then _ else _) _ _;split
 ·exact A0 (s:=[32,116,111,32]) (Ul (w:=[116,111]) (by decide+kernel) _) (M0 h 1 _ (Il (by decide)))
 ·exact Py _
theorem yz {k:Int} {s:Ac} {n:Int} {K:List Ac} (r:Ac):Stop (Eu (Iz k s n) K++59::r):=by
 unfold Eu;split
 ·exact Il (c:=32) (by decide)
 ·exact Il (c:=59) (by decide)
theorem Aj3 {k:Int} {s:Ac} {n:Int} {b:Bool} {K:List Ac} {T:List (List Sp)} {m:Ac} (L:13<=k/\k<=25) (ht:Fv k s=true) (hn:E2 k n=true) (h:Is K T) (J:Stop m):Sc (Et (Iz k s n) b K) (y4 k s n b T) m:=by
 have B:=M0 h 0;have E:=M0 h 1;have M:=M0 h 2;have y:∀r,Stop (32::r):=λr=>Il (by decide);have q:∀r,Stop (59::r):=λr=>Il (by decide);have L:k=13\/k=14\/k=15\/k=16\/k=17\/k=18\/k=19\/k=20\/k=21\/k=22\/k=23\/k=24\/k=25:=by omega
 rcases L with rfl|rfl|rfl|rfl|rfl|rfl|rfl|rfl|rfl|rfl|rfl|rfl|rfl
 ·show Sc ([118,97,114,32]++s++[32]++kd K 0++[32,61,32]++kd K 1++[59]) ([Az [118,97,114]]++([B4 s]++([]++(kq T 0++([AF 61]++(kq T 1++[AF 59])))))) m;rw[A7,A7,A7,A7,A7];exact A0 (F7 (w:=[118,97,114]) (by decide+kernel) _) (A0 (JH (Kh ht (by decide)) (y _)) (A0 (GP (.inl rfl) _) (A0 (B _ (y _)) (A0 (xy _) (A0 (E _ (q _)) (E4 (by decide) _))))))
 ·show Sc (kd K 0++[32,61,32]++kd K 1++[59]) (kq T 0++([AF 61]++(kq T 1++[AF 59]))) m;rw[A7,A7];exact A0 (B _ (y _)) (A0 (xy _) (A0 (E _ (q _)) (E4 (by decide) _)))
 ·show Sc ([99,97,108,108,32]++kd K 0++[59]) _ m;rw[A7];exact A0 (F7 (w:=[99,97,108,108]) (by decide+kernel) _) (A0 (B _ (q _)) (E4 (by decide) _))
 ·show Sc ([99,97,110,99,101,108,32]++kd K 0++[59]) _ m;rw[A7];exact A0 (F7 (w:=[99,97,110,99,101,108]) (by decide+kernel) _) (A0 (B _ (q _)) (E4 (by decide) _))
 ·show Sc ([106,111,105,110,32]++kd K 0++[59]) _ m;rw[A7];exact A0 (F7 (w:=[106,111,105,110]) (by decide+kernel) _) (A0 (B _ (q _)) (E4 (by decide) _))
 ·show Sc ([108,111,103,32]++kd K 0++[59]) _ m;rw[A7];exact A0 (F7 (w:=[108,111,103]) (by decide+kernel) _) (A0 (B _ (q _)) (E4 (by decide) _))
 ·show Sc ([112,111,115,116,32]++s++[32]++kd K 0++(if 0<n then [32,97,102,116,101,114,32]++Ek n.toNat else if n<0 then [32,102,114,111,110,116]else [])++Eu (Iz 19 s n) K++[59]) ([Az [112,111,115,116]]++([B4 s]++([]++(kq T 0++((if 0<n then [Az [97,102,116,101,114]]++[Ka n]else if n<0 then [Az [102,114,111,110,116]]else [])++(toQ 19 T++[AF 59])))))) m;rw[A7,A7,A7,A7,A7];have hn:=Bt (show decide (-1<=n/\n<=2147483647)=true from hn);have C:=λr=>yz (k:=19) (s:=s) (n:=n) (K:=K) r;refine A0 (F7 (w:=[112,111,115,116]) (by decide+kernel) _) (A0 (JH (Kh ht (by decide)) (y _)) (A0 (GP (.inl rfl) _) (A0 (B _ ?_) (A0 ?_ (A0 (yA h _) (E4 (by decide) _))))))
  ·split
   ·exact y _
   ·split
    ·exact y _
    ·rw[Ei,A7];exact C _
  ·rw[A7];split
   ·exact A0 (s:=[32,97,102,116,101,114,32]) (Ul (w:=[97,102,116,101,114]) (by decide+kernel) _) (xw (by omega) hn.2 (C _))
   ·split
    ·exact AjX (w:=[102,114,111,110,116]) (by decide+kernel) (C _)
    ·exact Py _
 ·show Sc ([115,112,97,119,110,32]++kd K 0++Eu (Iz 20 s n) K++[59]) ([Az [115,112,97,119,110]]++(kq T 0++(toQ 20 T++[AF 59]))) m;rw[A7,A7];exact A0 (F7 (w:=[115,112,97,119,110]) (by decide+kernel) _) (A0 (B _ (by rw[A7];exact yz _)) (A0 (yA h _) (E4 (by decide) _)))
 ·show Sc ([101,110,97,98,108,101,32]++s++[59]) _ m;rw[A7];exact A0 (F7 (w:=[101,110,97,98,108,101]) (by decide+kernel) _) (A0 (JH (Kh ht (by decide)) (q _)) (E4 (by decide) _))
 ·show Sc ([100,105,115,97,98,108,101,32]++s++[59]) _ m;rw[A7];exact A0 (F7 (w:=[100,105,115,97,98,108,101]) (by decide+kernel) _) (A0 (JH (Kh ht (by decide)) (q _)) (E4 (by decide) _))
 ·show Sc ([105,102,32]++kd K 0++[32]++kd K 1++(if b=true then [32,101,108,115,101,32]++kd K 2 else [])) ([Az [105,102]]++(kq T 0++([]++(kq T 1++(if b=true then [Az [101,108,115,101]]++kq T 2 else []))))) m;rw[A7,A7,A7];refine A0 (F7 (w:=[105,102]) (by decide+kernel) _) (A0 (B _ (y _)) (A0 (GP (.inl rfl) _) (A0 (E _ ?_) ?_)))
  ·split
   ·exact y _
   ·exact J
  ·split
   ·exact A0 (s:=[32,101,108,115,101,32]) (Ul (w:=[101,108,115,101]) (by decide+kernel) _) (M m J)
   ·exact Py _
 ·show Sc ([119,104,105,108,101,32]++kd K 0++[32]++kd K 1) ([Az [119,104,105,108,101]]++(kq T 0++([]++kq T 1))) m;rw[A7,A7];exact A0 (F7 (w:=[119,104,105,108,101]) (by decide+kernel) _) (A0 (B _ (y _)) (A0 (GP (.inl rfl) _) (E m J)))
 ·exact A0 (s:=[114,101,116,117,114,110]) (s':=[59]) (Um (by decide+kernel) (q _)) (E4 (by decide) _)
theorem Aj1 {k:Int} {s:Ac} {n:Int} {b:Bool} {K:List Ac} {T:List (List Sp)} {ind m:Ac} (y:1<=k/\k<=36) (ht:Fv k s=true) (hn:E2 k n=true) (hi:∀c∈ind,(c:UInt8)=32) (h:Is K T) (q:Stop m):Sc (L3 k s n b K ind) (H3 k s n b T) m:=by
 unfold L3 H3;split
 ·exact xx h m
 split
 ·exact xp hi h m
 split
 ·rename_i e;rw[A7,A7,A7,A7];exact A0 (F7 (w:=[99,111,109,112]) (by decide+kernel) _) (A0 (JH (Kh ht (by omega)) (Il (c:=32) (by decide))) (A0 (Ul (w:=[111,110]) (by decide+kernel) _) (A0 (M0 h 0 _ (Il (c:=32) (by decide))) (A0 (GP (.inl rfl) _) (xp hi (Aec h) m)))))
 split
 ·exact Aj4 (by assumption) ht hn h q
 split
 ·exact Aj3 (by assumption) ht hn h q
 ·exact AjY (by omega) ht hn h q
theorem Aj2 {b:Bool} {t:Ac} {q:List Sp} (h:∀m,Stop m->Sc t q m) (m:Ac) (y:Stop m):Sc (M8 b t) (BR b q) m:=by
 unfold M8 BR;split
 ·rw[A7];exact A0 (s:=[40]) (E4 (by decide) _) (A0 (h _ (Il (c:=41) (by decide))) (E4 (by decide) _))
 ·exact h m y
theorem AbA {k:Int} {i:Nat} {ind:Ac} (h:∀c∈ind,(c:UInt8)=32):∀c∈Ez k i ind,(c:UInt8)=32:=by
 unfold Ez;split
 ·intro c hc;rcases List.mem_append.1 hc with hc|hc
  ·exact h c hc
  ·simp at hc;exact hc
 ·exact h
mutual
theorem xz:∀(x:PT) (d:Int) (ind m:Ac),B9 x d->(∀c∈ind,(c:UInt8)=32)->Stop m->Sc (Hz x ind) (AR x) m
 |.mk k s n l c ks,d,ind,m,h,hi,B=>by unfold B9 at h;obtain⟨E,q,C,y⟩:=h;unfold Hz AR;exact Aj1 q.1 q.2.1 q.2.2 hi (ub ks k s 0 d ind y hi) B
theorem ub:∀(ks:Av) (k:Int) (s:Ac) (i:Nat) (d:Int) (ind:Ac),Cv k s ks i d->(∀c∈ind,(c:UInt8)=32)->Is (EA k s ks i ind) (BL k s ks i)
 | [],k,s,i,d,ind,h,hi=>by unfold EA BL Is;trivial
 |y::B,k,s,i,d,ind,h,hi=>by unfold Cv at h;unfold EA BL;exact⟨λm q=>Aj2 (λm q=>xz y _ _ m h.1 (AbA hi) q) m q,ub B k s (i+1) d ind h.2 hi⟩
end
theorem Aj6 {x:PT} {d:Int} (h:B9 x d):(DV (Hz x [])).1.map y6=AR x/\(DV (Hz x [])).2=[]:=by obtain⟨U,L,C,y,q⟩:=xz x d [] [] h (λc hc=>nomatch hc) (.inl rfl) 1 1;rw[HD,yF,HD]at q;have q:DV (Hz x [])=(U,[]):=q;rw[q];exact⟨y,rfl⟩
end Go.Proofs.YtlmmbanfhjaioaaGreatDoor
end
