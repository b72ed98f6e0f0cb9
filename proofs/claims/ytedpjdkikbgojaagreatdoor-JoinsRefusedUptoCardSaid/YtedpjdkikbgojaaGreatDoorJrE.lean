/- Laid by program out of its parts: JrE. -/
import Derived.Test.YtedpjdkikbgojaaGreatDoorJrD
set_option linter.unusedVariables false
set_option linter.unusedSimpArgs false
set_option maxRecDepth 100000
open Go Go.Ev
namespace Go.Proofs.YtedpjdkikbgojaaGreatDoor
def LF.none:LF:=⟨[],0,0,[]⟩
instance instDecLS:DecidableEq LS:=fun a b=>if h:a.func=b.func∧a.at_=b.at_ then .isTrue (by cases a;cases b;simp only at h;rw [h.1,h.2]) else .isFalse fun e=>h (by rw [e];exact ⟨rfl,rfl⟩)
def sitesF (i:Nat) (code:List LI):Nat→List LS
 | 0=>[]
 | k + 1=>sitesF i code k ++ if isSite (code.getD k LI.none).op then [⟨i,k⟩] else []
def sitesP (p:LP):Nat→List LS
 | 0=>[]
 | i + 1=>sitesP p i ++ sitesF i (p.funcs.getD i LF.none).code (p.funcs.getD i LF.none).code.length
def sitesTo (p:LP) (i k:Nat):List LS:=sitesP p i ++ sitesF i (p.funcs.getD i LF.none).code k
def headB (f:LF):Bool:=decide (0≤f.regs∧f.regs≤256∧0≤f.cap∧f.cap≤f.regs∧1≤f.code.length∧f.code.length≤512)
def lastB (f:LF):Bool:=decide ((f.code.getD (f.code.length - 1) LI.none).op=33∨(f.code.getD (f.code.length - 1) LI.none).op=31)
def atB (p:LP) (i k:Nat):Bool:=instrB p (p.funcs.getD i LF.none) ((p.funcs.getD i LF.none).code.getD k LI.none) && decide (((p.funcs.getD i LF.none).code.getD k LI.none).site=if isSite ((p.funcs.getD i LF.none).code.getD k LI.none).op then ((sitesTo p i k).length:Int) else -1)
def funcB (p:LP) (i:Nat):Bool:=headB (p.funcs.getD i LF.none) && (((List.range (p.funcs.getD i LF.none).code.length).all (atB p i)) && lastB (p.funcs.getD i LF.none))
def mayB (p:LP):Bool:=partsB p && (((List.range p.funcs.length).all (funcB p)) && (decide (sitesP p p.funcs.length=p.sites) && decide (p.sites.length≤512)))
structure LP.Small (p:LP):Prop where
 sites:p.sites.length≤2000000
 code:∀ i,(p.funcs.getD i LF.none).code.length≤2000000
 l:∀ i k,((p.funcs.getD i LF.none).code.getD k LI.none).l.length≤1999990
def pre (a b:List LS):Prop:=∃ c,b=a ++ c
structure OutM (p:LP) (i:Nat) (n:Int):Prop where
 le:i≤p.funcs.length
 n:n=(sitesP p i).length
 pr:pre (sitesP p i) p.sites
 al:∀ j,j < i→funcB p j=true
structure InM (p:LP) (i k:Nat) (n:Int):Prop where
 le:k≤(p.funcs.getD i LF.none).code.length
 n:n=(sitesTo p i k).length
 pr:pre (sitesTo p i k) p.sites
 al:∀ j,j < k→atB p i j=true
noncomputable def SM1 (p:LP):Stn:=thin (Nat×Int) [1] (fun x=>[(3,.int .i64 x.2),(4,.int .i64 x.1)]) (fun _ x=>OutM p x.1 x.2) fun x=>p.funcs.length - x.1
noncomputable def SM2 (p:LP):Stn:=thin (Nat×Int) [1,4,5] (fun x=>[(3,.int .i64 x.2),(6,.int .i64 x.1)]) (fun s x=>∀ a,s.T.get 4=some (.int .i64 a)→InM p a.toNat x.1 x.2) fun x=>2000000 - x.1
noncomputable def SM3 (p:LP):Stn:=thin Int [1,4,5,6] (fun n=>[(3,.int .i64 n)]) (fun s n=>∀ a b,s.T.get 4=some (.int .i64 a)→s.T.get 6=some (.int .i64 b)→InM p a.toNat (b.toNat + 1) n) fun _=>0
noncomputable def tbM:Tbl:=[(8,eParts1),(9,eInstr),(10,eSite)]
noncomputable def cxM (p:LP):Ctx:={ P:=Tryz.prog,tb:=tbM,lp:=fun g r=>cond (Nat.beq g 5) (cond (Nat.beq r 5) (some (SM1 p)) (cond (Nat.beq r 11) (some (SM2 p)) none)) none,cut:=fun g r=>cond (cond (Nat.beq g 5) (Nat.beq r 12) false) (some (SM3 p)) none }
theorem pre_refl (a:List LS):pre a a:=⟨[],by simp⟩
theorem pre_trans {a b c:List LS}:pre a b→pre b c→pre a c:=by
 rintro ⟨x,rfl⟩ ⟨y,rfl⟩;exact ⟨x ++ y,by simp⟩
theorem pre_app (a b:List LS):pre a (a ++ b):=⟨b,rfl⟩
theorem sitesF_pre (i:Nat) (code:List LI):∀ a b,a≤b→pre (sitesF i code a) (sitesF i code b)
 | a,0,h=>by rw [show a=0 by omega];exact pre_refl _
 | a,b + 1,h=>by
  rcases Nat.lt_or_ge a (b + 1) with h1 | h1
  ·exact pre_trans (sitesF_pre i code a b (by omega)) (pre_app _ _)
  ·rw [show a=b + 1 by omega];exact pre_refl _
theorem sitesP_pre (p:LP):∀ a b,a≤b→pre (sitesP p a) (sitesP p b)
 | a,0,h=>by rw [show a=0 by omega];exact pre_refl _
 | a,b + 1,h=>by
  rcases Nat.lt_or_ge a (b + 1) with h1 | h1
  ·exact pre_trans (sitesP_pre p a b (by omega)) (pre_app _ _)
  ·rw [show a=b + 1 by omega];exact pre_refl _
theorem sitesTo_pre {p:LP} {i k:Nat} (hk:k≤(p.funcs.getD i LF.none).code.length):pre (sitesTo p i k) (sitesP p (i + 1)):=by
 obtain ⟨c,hc⟩:=sitesF_pre i (p.funcs.getD i LF.none).code k _ hk
 exact ⟨c,by unfold sitesTo;rw [sitesP,hc,List.append_assoc]⟩
theorem mb_parts {p:LP} (h:partsB p=false):false=mayB p:=by unfold mayB;rw [h];rfl
theorem mb_func {p:LP} {i:Nat} (hi:i < p.funcs.length) (h:funcB p i=false):false=mayB p:=by
 have:(List.range p.funcs.length).all (funcB p)=false:=by
  rw [List.all_eq_false]
  exact ⟨i,List.mem_range.2 hi,by rw [h];simp⟩
 unfold mayB;rw [this];simp
theorem f_head {p:LP} {i:Nat} (h:¬ (0≤(p.funcs.getD i LF.none).regs∧(p.funcs.getD i LF.none).regs≤256∧0≤(p.funcs.getD i LF.none).cap∧(p.funcs.getD i LF.none).cap≤(p.funcs.getD i LF.none).regs∧1≤(p.funcs.getD i LF.none).code.length∧(p.funcs.getD i LF.none).code.length≤512)):funcB p i=false:=by
 unfold funcB headB;rw [decide_eq_false h];rfl
theorem f_at {p:LP} {i k:Nat} (hk:k < (p.funcs.getD i LF.none).code.length) (h:atB p i k=false):funcB p i=false:=by
 have:(List.range (p.funcs.getD i LF.none).code.length).all (atB p i)=false:=by
  rw [List.all_eq_false]
  exact ⟨k,List.mem_range.2 hk,by rw [h];simp⟩
 unfold funcB;rw [this];simp
theorem f_last {p:LP} {i:Nat} (h:¬ (((p.funcs.getD i LF.none).code.getD ((p.funcs.getD i LF.none).code.length - 1) LI.none).op=33∨((p.funcs.getD i LF.none).code.getD ((p.funcs.getD i LF.none).code.length - 1) LI.none).op=31)):funcB p i=false:=by
 unfold funcB lastB;rw [decide_eq_false h];simp
theorem at_instr {p:LP} {i k:Nat} (h:instrB p (p.funcs.getD i LF.none) ((p.funcs.getD i LF.none).code.getD k LI.none)=false):atB p i k=false:=by unfold atB;rw [h];rfl
theorem at_no {p:LP} {i k:Nat} (h:isSite ((p.funcs.getD i LF.none).code.getD k LI.none).op=false) (h1:((p.funcs.getD i LF.none).code.getD k LI.none).site≠-1):atB p i k=false:=by
 unfold atB;rw [h];simp only [Bool.false_eq_true,if_false,decide_eq_false h1,Bool.and_false]
theorem at_yes {p:LP} {i k:Nat} (h:isSite ((p.funcs.getD i LF.none).code.getD k LI.none).op=true) (h1:((p.funcs.getD i LF.none).code.getD k LI.none).site≠(sitesTo p i k).length):atB p i k=false:=by
 unfold atB;rw [h];simp only [if_true,decide_eq_false h1,Bool.and_false]
theorem at_okN {p:LP} {i k:Nat} (h0:instrB p (p.funcs.getD i LF.none) ((p.funcs.getD i LF.none).code.getD k LI.none)=true) (h:isSite ((p.funcs.getD i LF.none).code.getD k LI.none).op=false) (h1:((p.funcs.getD i LF.none).code.getD k LI.none).site = -1):atB p i k=true:=by
 unfold atB;rw [h0,h,h1];simp
theorem at_okY {p:LP} {i k:Nat} (h0:instrB p (p.funcs.getD i LF.none) ((p.funcs.getD i LF.none).code.getD k LI.none)=true) (h:isSite ((p.funcs.getD i LF.none).code.getD k LI.none).op=true) (h1:((p.funcs.getD i LF.none).code.getD k LI.none).site=(sitesTo p i k).length):atB p i k=true:=by
 unfold atB;rw [h0,h,h1];simp
theorem to_no {p:LP} {i k:Nat} (h:isSite ((p.funcs.getD i LF.none).code.getD k LI.none).op=false):sitesTo p i (k + 1)=sitesTo p i k:=by
 unfold sitesTo;rw [sitesF,h];simp
theorem to_yes {p:LP} {i k:Nat} (h:isSite ((p.funcs.getD i LF.none).code.getD k LI.none).op=true):sitesTo p i (k + 1)=sitesTo p i k ++ [⟨i,k⟩]:=by
 unfold sitesTo;rw [sitesF,h];simp
theorem mb_sites {p:LP} {i k:Nat} (hi:i < p.funcs.length) (hk:k≤(p.funcs.getD i LF.none).code.length) (h:¬ pre (sitesTo p i k) p.sites):false=mayB p:=by
 have:¬ sitesP p p.funcs.length=p.sites:=fun e=>h (e ▸ pre_trans (sitesTo_pre hk) (sitesP_pre p (i + 1) _ hi))
 unfold mayB;rw [decide_eq_false this];simp
theorem pre_get {a b:List LS} {x:LS} (h:pre (a ++ [x]) b):a.length < b.length∧b.getD a.length ⟨0,0⟩=x:=by
 obtain ⟨c,rfl⟩:=h
 refine ⟨by simp,?_⟩
 rw [List.getD_eq_getElem?_getD,List.append_assoc,List.getElem?_append_right (Nat.le_refl _)]
 simp
theorem pre_put {a b:List LS} {x:LS} (h:pre a b) (hl:a.length < b.length) (hx:b.getD a.length ⟨0,0⟩=x):pre (a ++ [x]) b:=by
 obtain ⟨c,rfl⟩:=h
 rw [List.getD_eq_getElem?_getD,List.getElem?_append_right (Nat.le_refl _),Nat.sub_self] at hx
 cases c with
 | nil=>simp at hl
 | cons y c =>
  simp at hx;subst hx
  exact ⟨c,by simp⟩
theorem InM.no {p:LP} {i k:Nat} {n:Int} (h:InM p i k n) (hk:k < (p.funcs.getD i LF.none).code.length) (hs:isSite ((p.funcs.getD i LF.none).code.getD k LI.none).op=false) (ha:atB p i k=true):InM p i (k + 1) n :=
 ⟨hk,by rw [to_no hs];exact h.n,by rw [to_no hs];exact h.pr,fun j hj=>by
  rcases Nat.lt_or_ge j k with h1 | h1
  ·exact h.al j h1
  ·rw [show j=k by omega];exact ha⟩
theorem InM.yes {p:LP} {i k:Nat} {n:Int} (h:InM p i k n) (hk:k < (p.funcs.getD i LF.none).code.length) (hs:isSite ((p.funcs.getD i LF.none).code.getD k LI.none).op=true) (ha:atB p i k=true) (hl:(sitesTo p i k).length < p.sites.length) (hx:p.sites.getD (sitesTo p i k).length ⟨0,0⟩=⟨i,k⟩):InM p i (k + 1) (n + 1) :=
 ⟨hk,by rw [to_yes hs,h.n];simp,by rw [to_yes hs];exact pre_put h.pr hl hx,fun j hj=>by
  rcases Nat.lt_or_ge j k with h1 | h1
  ·exact h.al j h1
  ·rw [show j=k by omega];exact ha⟩
theorem OutM.inn {p:LP} {i:Nat} {n:Int} (h:OutM p i n):InM p i 0 n :=
 ⟨Nat.zero_le _,by unfold sitesTo;rw [sitesF,List.append_nil];exact h.n,by unfold sitesTo;rw [sitesF,List.append_nil];exact h.pr,fun j hj=>by omega⟩
theorem InM.out {p:LP} {i k:Nat} {n m:Int} (h:OutM p i m) (g:InM p i k n) (hi:i < p.funcs.length) (hk:k=(p.funcs.getD i LF.none).code.length) (hh:0≤(p.funcs.getD i LF.none).regs∧(p.funcs.getD i LF.none).regs≤256∧0≤(p.funcs.getD i LF.none).cap∧(p.funcs.getD i LF.none).cap≤(p.funcs.getD i LF.none).regs∧1≤(p.funcs.getD i LF.none).code.length∧(p.funcs.getD i LF.none).code.length≤512)
  (hl:((p.funcs.getD i LF.none).code.getD ((p.funcs.getD i LF.none).code.length - 1) LI.none).op=33∨((p.funcs.getD i LF.none).code.getD ((p.funcs.getD i LF.none).code.length - 1) LI.none).op=31):OutM p (i + 1) n:=by
 subst hk
 refine ⟨hi,g.n,g.pr,fun j hj=>?_⟩
 rcases Nat.lt_or_ge j i with h1 | h1
 ·exact h.al j h1
 ·obtain rfl:j=i:=by omega
  have:(List.range (p.funcs.getD j LF.none).code.length).all (atB p j)=true:=by
   rw [List.all_eq_true]
   intro x hx
   exact g.al x (List.mem_range.1 hx)
  unfold funcB headB lastB
  rw [decide_eq_true hh,decide_eq_true hl,this];rfl
theorem OutM.fin {p:LP} {i:Nat} {n:Int} (h:OutM p i n) (hi:p.funcs.length≤i) (hp:partsB p=true) (hn:n=p.sites.length):mayB p=decide (p.sites.length≤512):=by
 obtain rfl:i=p.funcs.length:=by have:=h.le;omega
 have h1:(List.range p.funcs.length).all (funcB p)=true:=by
  rw [List.all_eq_true]
  intro x hx
  exact h.al x (List.mem_range.1 hx)
 have h2:sitesP p p.funcs.length=p.sites:=by
  obtain ⟨c,hc⟩:=h.pr
  have:=h.n
  have h3:=congrArg List.length hc
  rw [List.length_append] at h3
  have:c=[]:=List.length_eq_zero_iff.1 (by omega)
  rw [hc,this,List.append_nil]
 unfold mayB
 rw [hp,h1,decide_eq_true h2];rfl
theorem OutM.bad {p:LP} {i:Nat} {n:Int} (h:OutM p i n) (hi:p.funcs.length≤i) (hn:n≠p.sites.length):false=mayB p:=by
 obtain rfl:i=p.funcs.length:=by have:=h.le;omega
 have h2:¬ sitesP p p.funcs.length=p.sites:=fun e=>hn (by rw [h.n,e])
 unfold mayB
 rw [decide_eq_false h2];simp
@[reducible] def JrE_runMayR_k0:Nat×Int→Nat×Int→Prop:=fun (a a_1:Nat×Int)=>(some 0=some 0∧true=true)∧(true=true∧(↑(Prod.fst a):Int)=(↑(Prod.fst a):Int))∧(some 3=some 3∧true=true)∧(true=true∧(↑(Prod.fst a_1):Int)=(↑(Prod.fst a_1):Int))∧True
@[reducible] def JrE_runMayR_k1:LP→Prop:=fun (p:LP)=>true=true∧true=true∧true=true∧true=true∧(((((((True∧true=true∧List.length (LP.loopers p)=List.length (LP.loopers p)∧AllI fun (i:Nat)=>Nat.le (Nat.succ i) (List.length (LP.loopers p))→List.getD (LP.loopers p) i []=List.getD (LP.loopers p) i []∧True)∧true=true∧List.length (LP.classes p)=List.length (LP.classes p)∧AllI fun (i:Nat)=>Nat.le (Nat.succ i) (List.length (LP.classes p))→LC.name (List.getD (LP.classes p) i (LC.mk [] [] []))=LC.name (List.getD (LP.classes p) i (LC.mk [] [] []))∧(true=true∧List.length (LC.names (List.getD (LP.classes p) i (LC.mk [] [] [])))=List.length (LC.names (List.getD (LP.classes p) i (LC.mk [] [] [])))∧AllI fun (i_1:Nat)=>Nat.le (Nat.succ i_1) (List.length (LC.names (List.getD (LP.classes p) i (LC.mk [] [] []))))→List.getD (LC.names (List.getD (LP.classes p) i (LC.mk [] [] []))) i_1 []=List.getD (LC.names (List.getD (LP.classes p) i (LC.mk [] [] []))) i_1 []∧True)∧(true=true∧List.length (LC.fields (List.getD (LP.classes p) i (LC.mk [] [] [])))=List.length (LC.fields (List.getD (LP.classes p) i (LC.mk [] [] [])))∧AllI fun (i_1:Nat)=>Nat.le (Nat.succ i_1) (List.length (LC.fields (List.getD (LP.classes p) i (LC.mk [] [] []))))→(true=true∧List.getD (LC.fields (List.getD (LP.classes p) i (LC.mk [] [] []))) i_1 (0:Int)=List.getD (LC.fields (List.getD (LP.classes p) i (LC.mk [] [] []))) i_1 (0:Int))∧True)∧True)∧true=true∧List.length (LP.globals p)=List.length (LP.globals p)∧AllI fun (i:Nat)=>Nat.le (Nat.succ i) (List.length (LP.globals p))→LG.name (List.getD (LP.globals p) i (LG.mk [] (0:Int)))=LG.name (List.getD (LP.globals p) i (LG.mk [] (0:Int)))∧(true=true∧LG.type (List.getD (LP.globals p) i (LG.mk [] (0:Int)))=LG.type (List.getD (LP.globals p) i (LG.mk [] (0:Int))))∧True)∧true=true∧List.length (LP.funcs p)=List.length (LP.funcs p)∧AllI fun (i:Nat)=>Nat.le (Nat.succ i) (List.length (LP.funcs p))→LF.name (List.getD (LP.funcs p) i (LF.mk [] (0:Int) (0:Int) []))=LF.name (List.getD (LP.funcs p) i (LF.mk [] (0:Int) (0:Int) []))∧(true=true∧LF.cap (List.getD (LP.funcs p) i (LF.mk [] (0:Int) (0:Int) []))=LF.cap (List.getD (LP.funcs p) i (LF.mk [] (0:Int) (0:Int) [])))∧(true=true∧LF.regs (List.getD (LP.funcs p) i (LF.mk [] (0:Int) (0:Int) []))=LF.regs (List.getD (LP.funcs p) i (LF.mk [] (0:Int) (0:Int) [])))∧(true=true∧List.length (LF.code (List.getD (LP.funcs p) i (LF.mk [] (0:Int) (0:Int) [])))=List.length (LF.code (List.getD (LP.funcs p) i (LF.mk [] (0:Int) (0:Int) [])))∧AllI fun (i_1:Nat)=>Nat.le (Nat.succ i_1) (List.length (LF.code (List.getD (LP.funcs p) i (LF.mk [] (0:Int) (0:Int) []))))→(true=true∧LI.op (List.getD (LF.code (List.getD (LP.funcs p) i (LF.mk [] (0:Int) (0:Int) []))) i_1 LI.none)=LI.op (List.getD (LF.code (List.getD (LP.funcs p) i (LF.mk [] (0:Int) (0:Int) []))) i_1 LI.none))∧(true=true∧LI.a (List.getD (LF.code (List.getD (LP.funcs p) i (LF.mk [] (0:Int) (0:Int) []))) i_1 LI.none)=LI.a (List.getD (LF.code (List.getD (LP.funcs p) i (LF.mk [] (0:Int) (0:Int) []))) i_1 LI.none))∧(true=true∧LI.b (List.getD (LF.code (List.getD (LP.funcs p) i (LF.mk [] (0:Int) (0:Int) []))) i_1 LI.none)=LI.b (List.getD (LF.code (List.getD (LP.funcs p) i (LF.mk [] (0:Int) (0:Int) []))) i_1 LI.none))∧(true=true∧LI.c (List.getD (LF.code (List.getD (LP.funcs p) i (LF.mk [] (0:Int) (0:Int) []))) i_1 LI.none)=LI.c (List.getD (LF.code (List.getD (LP.funcs p) i (LF.mk [] (0:Int) (0:Int) []))) i_1 LI.none))∧(true=true∧LI.n (List.getD (LF.code (List.getD (LP.funcs p) i (LF.mk [] (0:Int) (0:Int) []))) i_1 LI.none)=LI.n (List.getD (LF.code (List.getD (LP.funcs p) i (LF.mk [] (0:Int) (0:Int) []))) i_1 LI.none))∧(true=true∧List.length (LI.l (List.getD (LF.code (List.getD (LP.funcs p) i (LF.mk [] (0:Int) (0:Int) []))) i_1 LI.none))=List.length (LI.l (List.getD (LF.code (List.getD (LP.funcs p) i (LF.mk [] (0:Int) (0:Int) []))) i_1 LI.none))∧AllI fun (i_2:Nat)=>Nat.le (Nat.succ i_2) (List.length (LI.l (List.getD (LF.code (List.getD (LP.funcs p) i (LF.mk [] (0:Int) (0:Int) []))) i_1 LI.none)))→(true=true∧List.getD (LI.l (List.getD (LF.code (List.getD (LP.funcs p) i (LF.mk [] (0:Int) (0:Int) []))) i_1 LI.none)) i_2 (0:Int)=List.getD (LI.l (List.getD (LF.code (List.getD (LP.funcs p) i (LF.mk [] (0:Int) (0:Int) []))) i_1 LI.none)) i_2 (0:Int))∧True)∧(true=true∧LI.site (List.getD (LF.code (List.getD (LP.funcs p) i (LF.mk [] (0:Int) (0:Int) []))) i_1 LI.none)=LI.site (List.getD (LF.code (List.getD (LP.funcs p) i (LF.mk [] (0:Int) (0:Int) []))) i_1 LI.none))∧(true=true∧LI.line (List.getD (LF.code (List.getD (LP.funcs p) i (LF.mk [] (0:Int) (0:Int) []))) i_1 LI.none)=LI.line (List.getD (LF.code (List.getD (LP.funcs p) i (LF.mk [] (0:Int) (0:Int) []))) i_1 LI.none))∧True)∧True)∧true=true∧List.length (LP.comps p)=List.length (LP.comps p)∧AllI fun (i:Nat)=>Nat.le (Nat.succ i) (List.length (LP.comps p))→LM.name (List.getD (LP.comps p) i (LM.mk [] (0:Int) (0:Int) (0:Int) (0:Int) (0:Int)))=LM.name (List.getD (LP.comps p) i (LM.mk [] (0:Int) (0:Int) (0:Int) (0:Int) (0:Int)))∧(true=true∧LM.looper (List.getD (LP.comps p) i (LM.mk [] (0:Int) (0:Int) (0:Int) (0:Int) (0:Int)))=LM.looper (List.getD (LP.comps p) i (LM.mk [] (0:Int) (0:Int) (0:Int) (0:Int) (0:Int))))∧(true=true∧LM.f0 (List.getD (LP.comps p) i (LM.mk [] (0:Int) (0:Int) (0:Int) (0:Int) (0:Int)))=LM.f0 (List.getD (LP.comps p) i (LM.mk [] (0:Int) (0:Int) (0:Int) (0:Int) (0:Int))))∧(true=true∧LM.f1 (List.getD (LP.comps p) i (LM.mk [] (0:Int) (0:Int) (0:Int) (0:Int) (0:Int)))=LM.f1 (List.getD (LP.comps p) i (LM.mk [] (0:Int) (0:Int) (0:Int) (0:Int) (0:Int))))∧(true=true∧LM.f2 (List.getD (LP.comps p) i (LM.mk [] (0:Int) (0:Int) (0:Int) (0:Int) (0:Int)))=LM.f2 (List.getD (LP.comps p) i (LM.mk [] (0:Int) (0:Int) (0:Int) (0:Int) (0:Int))))∧(true=true∧LM.f3 (List.getD (LP.comps p) i (LM.mk [] (0:Int) (0:Int) (0:Int) (0:Int) (0:Int)))=LM.f3 (List.getD (LP.comps p) i (LM.mk [] (0:Int) (0:Int) (0:Int) (0:Int) (0:Int))))∧True)∧true=true∧List.length (LP.events p)=List.length (LP.events p)∧AllI fun (i:Nat)=>Nat.le (Nat.succ i) (List.length (LP.events p))→LE.name (List.getD (LP.events p) i (LE.mk [] (0:Int) false (0:Int)))=LE.name (List.getD (LP.events p) i (LE.mk [] (0:Int) false (0:Int)))∧(true=true∧LE.looper (List.getD (LP.events p) i (LE.mk [] (0:Int) false (0:Int)))=LE.looper (List.getD (LP.events p) i (LE.mk [] (0:Int) false (0:Int))))∧LE.on (List.getD (LP.events p) i (LE.mk [] (0:Int) false (0:Int)))=LE.on (List.getD (LP.events p) i (LE.mk [] (0:Int) false (0:Int)))∧(true=true∧LE.func (List.getD (LP.events p) i (LE.mk [] (0:Int) false (0:Int)))=LE.func (List.getD (LP.events p) i (LE.mk [] (0:Int) false (0:Int))))∧True)∧true=true∧LP.main p=LP.main p)∧true=true∧List.length (LP.sites p)=List.length (LP.sites p)∧AllI fun (i:Nat)=>Nat.le (Nat.succ i) (List.length (LP.sites p))→(true=true∧LS.func (List.getD (LP.sites p) i (LS.mk (0:Int) (0:Int)))=LS.func (List.getD (LP.sites p) i (LS.mk (0:Int) (0:Int))))∧(true=true∧LS.at_ (List.getD (LP.sites p) i (LS.mk (0:Int) (0:Int)))=LS.at_ (List.getD (LP.sites p) i (LS.mk (0:Int) (0:Int))))∧True
@[reducible] def JrE_runMayR_k2:LP→Prop:=fun (p:LP)=>JrE_runMayR_k1 p∧True
@[reducible] def JrE_runMayR_k3:LP→Nat×Int→Nat×Int→Nat×Int→Prop:=fun (p:LP) (a a_1 a_2:Nat×Int)=>OutM p (Prod.fst a_2) (Prod.snd a_2)∧Nat.le (Nat.succ (List.length (LP.funcs p) - Prod.fst a_2)) (List.length (LP.funcs p) - Prod.fst a)∧true=true∧((true=true∧Prod.snd a_1=Prod.snd a_2)∧(true=true∧(↑(Prod.fst a):Int) + (1:Int)=(↑(Prod.fst a_2):Int))∧(some 0=some 0∧true=true)∧True)∧JrE_runMayR_k2 p
@[reducible] def JrE_runMayR_k4:LP→Nat×Int→Prop:=fun (p:LP) (a:Nat×Int)=>JrE_runMayR_k1 p∧(true=true∧true=true∧true=true∧true=true∧(((True∧LF.name (List.getD (LP.funcs p) (Int.toNat (↑(Prod.fst a):Int)) (LF.mk [] (0:Int) (0:Int) []))=LF.name (List.getD (LP.funcs p) (Int.toNat (↑(Prod.fst a):Int)) (LF.mk [] (0:Int) (0:Int) [])))∧true=true∧LF.cap (List.getD (LP.funcs p) (Int.toNat (↑(Prod.fst a):Int)) (LF.mk [] (0:Int) (0:Int) []))=LF.cap (List.getD (LP.funcs p) (Int.toNat (↑(Prod.fst a):Int)) (LF.mk [] (0:Int) (0:Int) [])))∧true=true∧LF.regs (List.getD (LP.funcs p) (Int.toNat (↑(Prod.fst a):Int)) (LF.mk [] (0:Int) (0:Int) []))=LF.regs (List.getD (LP.funcs p) (Int.toNat (↑(Prod.fst a):Int)) (LF.mk [] (0:Int) (0:Int) [])))∧true=true∧List.length (LF.code (List.getD (LP.funcs p) (Int.toNat (↑(Prod.fst a):Int)) (LF.mk [] (0:Int) (0:Int) [])))=List.length (LF.code (List.getD (LP.funcs p) (Int.toNat (↑(Prod.fst a):Int)) (LF.mk [] (0:Int) (0:Int) [])))∧AllI fun (i:Nat)=>Nat.le (Nat.succ i) (List.length (LF.code (List.getD (LP.funcs p) (Int.toNat (↑(Prod.fst a):Int)) (LF.mk [] (0:Int) (0:Int) []))))→(true=true∧LI.op (List.getD (LF.code (List.getD (LP.funcs p) (Int.toNat (↑(Prod.fst a):Int)) (LF.mk [] (0:Int) (0:Int) []))) i LI.none)=LI.op (List.getD (LF.code (List.getD (LP.funcs p) (Int.toNat (↑(Prod.fst a):Int)) (LF.mk [] (0:Int) (0:Int) []))) i LI.none))∧(true=true∧LI.a (List.getD (LF.code (List.getD (LP.funcs p) (Int.toNat (↑(Prod.fst a):Int)) (LF.mk [] (0:Int) (0:Int) []))) i LI.none)=LI.a (List.getD (LF.code (List.getD (LP.funcs p) (Int.toNat (↑(Prod.fst a):Int)) (LF.mk [] (0:Int) (0:Int) []))) i LI.none))∧(true=true∧LI.b (List.getD (LF.code (List.getD (LP.funcs p) (Int.toNat (↑(Prod.fst a):Int)) (LF.mk [] (0:Int) (0:Int) []))) i LI.none)=LI.b (List.getD (LF.code (List.getD (LP.funcs p) (Int.toNat (↑(Prod.fst a):Int)) (LF.mk [] (0:Int) (0:Int) []))) i LI.none))∧(true=true∧LI.c (List.getD (LF.code (List.getD (LP.funcs p) (Int.toNat (↑(Prod.fst a):Int)) (LF.mk [] (0:Int) (0:Int) []))) i LI.none)=LI.c (List.getD (LF.code (List.getD (LP.funcs p) (Int.toNat (↑(Prod.fst a):Int)) (LF.mk [] (0:Int) (0:Int) []))) i LI.none))∧(true=true∧LI.n (List.getD (LF.code (List.getD (LP.funcs p) (Int.toNat (↑(Prod.fst a):Int)) (LF.mk [] (0:Int) (0:Int) []))) i LI.none)=LI.n (List.getD (LF.code (List.getD (LP.funcs p) (Int.toNat (↑(Prod.fst a):Int)) (LF.mk [] (0:Int) (0:Int) []))) i LI.none))∧(true=true∧List.length (LI.l (List.getD (LF.code (List.getD (LP.funcs p) (Int.toNat (↑(Prod.fst a):Int)) (LF.mk [] (0:Int) (0:Int) []))) i LI.none))=List.length (LI.l (List.getD (LF.code (List.getD (LP.funcs p) (Int.toNat (↑(Prod.fst a):Int)) (LF.mk [] (0:Int) (0:Int) []))) i LI.none))∧AllI fun (i_1:Nat)=>Nat.le (Nat.succ i_1) (List.length (LI.l (List.getD (LF.code (List.getD (LP.funcs p) (Int.toNat (↑(Prod.fst a):Int)) (LF.mk [] (0:Int) (0:Int) []))) i LI.none)))→(true=true∧List.getD (LI.l (List.getD (LF.code (List.getD (LP.funcs p) (Int.toNat (↑(Prod.fst a):Int)) (LF.mk [] (0:Int) (0:Int) []))) i LI.none)) i_1 (0:Int)=List.getD (LI.l (List.getD (LF.code (List.getD (LP.funcs p) (Int.toNat (↑(Prod.fst a):Int)) (LF.mk [] (0:Int) (0:Int) []))) i LI.none)) i_1 (0:Int))∧True)∧(true=true∧LI.site (List.getD (LF.code (List.getD (LP.funcs p) (Int.toNat (↑(Prod.fst a):Int)) (LF.mk [] (0:Int) (0:Int) []))) i LI.none)=LI.site (List.getD (LF.code (List.getD (LP.funcs p) (Int.toNat (↑(Prod.fst a):Int)) (LF.mk [] (0:Int) (0:Int) []))) i LI.none))∧(true=true∧LI.line (List.getD (LF.code (List.getD (LP.funcs p) (Int.toNat (↑(Prod.fst a):Int)) (LF.mk [] (0:Int) (0:Int) []))) i LI.none)=LI.line (List.getD (LF.code (List.getD (LP.funcs p) (Int.toNat (↑(Prod.fst a):Int)) (LF.mk [] (0:Int) (0:Int) []))) i LI.none))∧True)∧True
theorem runMayR_r:∀ (p:LP),LP.Small p→(∃ (p_1:LP),[AV.vec 1 (List.length (LP.loopers p)) (rB (LP.loopers p)),AV.vec 3 (List.length (LP.classes p)) (rLC (LP.classes p)),AV.vec 2 (List.length (LP.globals p)) (rLG (LP.globals p)),AV.vec 4 (List.length (LP.funcs p)) (rLF (LP.funcs p)),AV.vec 6 (List.length (LP.comps p)) (rLM (LP.comps p)),AV.vec 4 (List.length (LP.events p)) (rLE (LP.events p)),AV.int IntKind.i64 (LP.main p),AV.vec 2 (List.length (LP.sites p)) (rLS (LP.sites p))]=LP.row p_1)∧brP (!bar (partsB (dLP [AV.vec 1 (List.length (LP.loopers p)) (rB (LP.loopers p)),AV.vec 3 (List.length (LP.classes p)) (rLC (LP.classes p)),AV.vec 2 (List.length (LP.globals p)) (rLG (LP.globals p)),AV.vec 4 (List.length (LP.funcs p)) (rLF (LP.funcs p)),AV.vec 6 (List.length (LP.comps p)) (rLM (LP.comps p)),AV.vec 4 (List.length (LP.events p)) (rLE (LP.events p)),AV.int IntKind.i64 (LP.main p),AV.vec 2 (List.length (LP.sites p)) (rLS (LP.sites p))]))) (false=mayB p) ((∃ (x0:Nat×Int),OutM p x0.1 x0.2∧true=true∧((true=true∧(0:Int)=x0.2)∧(true=true∧(0:Int)=(↑x0.1:Int))∧(some 0=some 0∧true=true)∧True)∧JrE_runMayR_k2 p)∧∀ (x:Nat×Int),OutM p x.1 x.2→brP (ilt (↑x.1:Int) (Int.ofNat (List.length (LP.funcs p)))) (sdA (inB (↑x.1:Int) (List.length (LP.funcs p))) (brP (ilt (LF.regs (List.getD (LP.funcs p) (Int.toNat (↑x.1:Int)) (LF.mk [] (0:Int) (0:Int) []))) (0:Int)) (false=mayB p) (brP (ilt (256:Int) (LF.regs (List.getD (LP.funcs p) (Int.toNat (↑x.1:Int)) (LF.mk [] (0:Int) (0:Int) [])))) (false=mayB p) (brP (ilt (LF.cap (List.getD (LP.funcs p) (Int.toNat (↑x.1:Int)) (LF.mk [] (0:Int) (0:Int) []))) (0:Int)) (false=mayB p) (brP (ilt (LF.regs (List.getD (LP.funcs p) (Int.toNat (↑x.1:Int)) (LF.mk [] (0:Int) (0:Int) []))) (LF.cap (List.getD (LP.funcs p) (Int.toNat (↑x.1:Int)) (LF.mk [] (0:Int) (0:Int) [])))) (false=mayB p) (brP (ilt (Int.ofNat (List.length (LF.code (List.getD (LP.funcs p) (Int.toNat (↑x.1:Int)) (LF.mk [] (0:Int) (0:Int) []))))) (1:Int)) (false=mayB p) (brP (ilt (512:Int) (Int.ofNat (List.length (LF.code (List.getD (LP.funcs p) (Int.toNat (↑x.1:Int)) (LF.mk [] (0:Int) (0:Int) [])))))) (false=mayB p) ((∃ (x0:Nat×Int),(∀ (a:Int),some (AV.int IntKind.i64 (↑x.1:Int))=some (AV.int IntKind.i64 a)→InM p (Int.toNat a) x0.1 x0.2)∧true=true∧((true=true∧x.2=x0.2)∧(true=true∧(0:Int)=(↑x0.1:Int))∧(some 0=some 0∧true=true)∧(true=true∧(↑x.1:Int)=(↑x.1:Int))∧(some 3=some 3∧true=true)∧True)∧JrE_runMayR_k4 p x)∧∀ (x_1:Nat×Int),(∀ (a:Int),some (AV.int IntKind.i64 (↑x.1:Int))=some (AV.int IntKind.i64 a)→InM p (Int.toNat a) x_1.1 x_1.2)→brP (ilt (↑x_1.1:Int) (Int.ofNat (List.length (LF.code (List.getD (LP.funcs p) (Int.toNat (↑x.1:Int)) (LF.mk [] (0:Int) (0:Int) [])))))) (sdA (inB (↑x_1.1:Int) (List.length (LF.code (List.getD (LP.funcs p) (Int.toNat (↑x.1:Int)) (LF.mk [] (0:Int) (0:Int) []))))) ((∃ (p_1:LP),∃ (f:LF),∃ (x_2:LI),[AV.vec 1 (List.length (LP.loopers p)) (rB (LP.loopers p)),AV.vec 3 (List.length (LP.classes p)) (rLC (LP.classes p)),AV.vec 2 (List.length (LP.globals p)) (rLG (LP.globals p)),AV.vec 4 (List.length (LP.funcs p)) (rLF (LP.funcs p)),AV.vec 6 (List.length (LP.comps p)) (rLM (LP.comps p)),AV.vec 4 (List.length (LP.events p)) (rLE (LP.events p)),AV.int IntKind.i64 (LP.main p),AV.vec 2 (List.length (LP.sites p)) (rLS (LP.sites p))]=LP.row p_1∧[AV.bs (LF.name (List.getD (LP.funcs p) (Int.toNat (↑x.1:Int)) (LF.mk [] (0:Int) (0:Int) []))),AV.int IntKind.i64 (LF.cap (List.getD (LP.funcs p) (Int.toNat (↑x.1:Int)) (LF.mk [] (0:Int) (0:Int) []))),AV.int IntKind.i64 (LF.regs (List.getD (LP.funcs p) (Int.toNat (↑x.1:Int)) (LF.mk [] (0:Int) (0:Int) []))),AV.vec 8 (List.length (LF.code (List.getD (LP.funcs p) (Int.toNat (↑x.1:Int)) (LF.mk [] (0:Int) (0:Int) [])))) (rLI (LF.code (List.getD (LP.funcs p) (Int.toNat (↑x.1:Int)) (LF.mk [] (0:Int) (0:Int) []))))]=LF.row f∧[AV.int IntKind.i64 (LI.op (List.getD (LF.code (List.getD (LP.funcs p) (Int.toNat (↑x.1:Int)) (LF.mk [] (0:Int) (0:Int) []))) (Int.toNat (↑x_1.1:Int)) LI.none)),AV.int IntKind.i64 (LI.a (List.getD (LF.code (List.getD (LP.funcs p) (Int.toNat (↑x.1:Int)) (LF.mk [] (0:Int) (0:Int) []))) (Int.toNat (↑x_1.1:Int)) LI.none)),AV.int IntKind.i64 (LI.b (List.getD (LF.code (List.getD (LP.funcs p) (Int.toNat (↑x.1:Int)) (LF.mk [] (0:Int) (0:Int) []))) (Int.toNat (↑x_1.1:Int)) LI.none)),AV.int IntKind.i64 (LI.c (List.getD (LF.code (List.getD (LP.funcs p) (Int.toNat (↑x.1:Int)) (LF.mk [] (0:Int) (0:Int) []))) (Int.toNat (↑x_1.1:Int)) LI.none)),AV.int IntKind.i64 (LI.n (List.getD (LF.code (List.getD (LP.funcs p) (Int.toNat (↑x.1:Int)) (LF.mk [] (0:Int) (0:Int) []))) (Int.toNat (↑x_1.1:Int)) LI.none)),AV.vec 1 (List.length (LI.l (List.getD (LF.code (List.getD (LP.funcs p) (Int.toNat (↑x.1:Int)) (LF.mk [] (0:Int) (0:Int) []))) (Int.toNat (↑x_1.1:Int)) LI.none))) (rI (LI.l (List.getD (LF.code (List.getD (LP.funcs p) (Int.toNat (↑x.1:Int)) (LF.mk [] (0:Int) (0:Int) []))) (Int.toNat (↑x_1.1:Int)) LI.none))),AV.int IntKind.i64 (LI.site (List.getD (LF.code (List.getD (LP.funcs p) (Int.toNat (↑x.1:Int)) (LF.mk [] (0:Int) (0:Int) []))) (Int.toNat (↑x_1.1:Int)) LI.none)),AV.int IntKind.i64 (LI.line (List.getD (LF.code (List.getD (LP.funcs p) (Int.toNat (↑x.1:Int)) (LF.mk [] (0:Int) (0:Int) []))) (Int.toNat (↑x_1.1:Int)) LI.none))]=LI.row x_2∧Nat.le (List.length (LI.l x_2)) 2000000)∧brP (!bar (instrB (dLP [AV.vec 1 (List.length (LP.loopers p)) (rB (LP.loopers p)),AV.vec 3 (List.length (LP.classes p)) (rLC (LP.classes p)),AV.vec 2 (List.length (LP.globals p)) (rLG (LP.globals p)),AV.vec 4 (List.length (LP.funcs p)) (rLF (LP.funcs p)),AV.vec 6 (List.length (LP.comps p)) (rLM (LP.comps p)),AV.vec 4 (List.length (LP.events p)) (rLE (LP.events p)),AV.int IntKind.i64 (LP.main p),AV.vec 2 (List.length (LP.sites p)) (rLS (LP.sites p))]) (dLF [AV.bs (LF.name (List.getD (LP.funcs p) (Int.toNat (↑x.1:Int)) (LF.mk [] (0:Int) (0:Int) []))),AV.int IntKind.i64 (LF.cap (List.getD (LP.funcs p) (Int.toNat (↑x.1:Int)) (LF.mk [] (0:Int) (0:Int) []))),AV.int IntKind.i64 (LF.regs (List.getD (LP.funcs p) (Int.toNat (↑x.1:Int)) (LF.mk [] (0:Int) (0:Int) []))),AV.vec 8 (List.length (LF.code (List.getD (LP.funcs p) (Int.toNat (↑x.1:Int)) (LF.mk [] (0:Int) (0:Int) [])))) (rLI (LF.code (List.getD (LP.funcs p) (Int.toNat (↑x.1:Int)) (LF.mk [] (0:Int) (0:Int) []))))]) (dLI [AV.int IntKind.i64 (LI.op (List.getD (LF.code (List.getD (LP.funcs p) (Int.toNat (↑x.1:Int)) (LF.mk [] (0:Int) (0:Int) []))) (Int.toNat (↑x_1.1:Int)) LI.none)),AV.int IntKind.i64 (LI.a (List.getD (LF.code (List.getD (LP.funcs p) (Int.toNat (↑x.1:Int)) (LF.mk [] (0:Int) (0:Int) []))) (Int.toNat (↑x_1.1:Int)) LI.none)),AV.int IntKind.i64 (LI.b (List.getD (LF.code (List.getD (LP.funcs p) (Int.toNat (↑x.1:Int)) (LF.mk [] (0:Int) (0:Int) []))) (Int.toNat (↑x_1.1:Int)) LI.none)),AV.int IntKind.i64 (LI.c (List.getD (LF.code (List.getD (LP.funcs p) (Int.toNat (↑x.1:Int)) (LF.mk [] (0:Int) (0:Int) []))) (Int.toNat (↑x_1.1:Int)) LI.none)),AV.int IntKind.i64 (LI.n (List.getD (LF.code (List.getD (LP.funcs p) (Int.toNat (↑x.1:Int)) (LF.mk [] (0:Int) (0:Int) []))) (Int.toNat (↑x_1.1:Int)) LI.none)),AV.vec 1 (List.length (LI.l (List.getD (LF.code (List.getD (LP.funcs p) (Int.toNat (↑x.1:Int)) (LF.mk [] (0:Int) (0:Int) []))) (Int.toNat (↑x_1.1:Int)) LI.none))) (rI (LI.l (List.getD (LF.code (List.getD (LP.funcs p) (Int.toNat (↑x.1:Int)) (LF.mk [] (0:Int) (0:Int) []))) (Int.toNat (↑x_1.1:Int)) LI.none))),AV.int IntKind.i64 (LI.site (List.getD (LF.code (List.getD (LP.funcs p) (Int.toNat (↑x.1:Int)) (LF.mk [] (0:Int) (0:Int) []))) (Int.toNat (↑x_1.1:Int)) LI.none)),AV.int IntKind.i64 (LI.line (List.getD (LF.code (List.getD (LP.funcs p) (Int.toNat (↑x.1:Int)) (LF.mk [] (0:Int) (0:Int) []))) (Int.toNat (↑x_1.1:Int)) LI.none))]))) (false=mayB p) (True∧brP (!bar (isSite (LI.op (List.getD (LF.code (List.getD (LP.funcs p) (Int.toNat (↑x.1:Int)) (LF.mk [] (0:Int) (0:Int) []))) (Int.toNat (↑x_1.1:Int)) LI.none)))) (brP (!ieq (LI.site (List.getD (LF.code (List.getD (LP.funcs p) (Int.toNat (↑x.1:Int)) (LF.mk [] (0:Int) (0:Int) []))) (Int.toNat (↑x_1.1:Int)) LI.none)) (Int.negSucc 0)) (false=mayB p) (∃ (x_2:Int),(∀ (a b:Int),some (AV.int IntKind.i64 (↑x.1:Int))=some (AV.int IntKind.i64 a)→some (AV.int IntKind.i64 (↑x_1.1:Int))=some (AV.int IntKind.i64 b)→InM p (Int.toNat a) (Int.toNat b + 1) x_2)∧true=true∧((true=true∧x_1.2=x_2)∧JrE_runMayR_k0 x x_1)∧JrE_runMayR_k4 p x)) (brP (!ieq (LI.site (List.getD (LF.code (List.getD (LP.funcs p) (Int.toNat (↑x.1:Int)) (LF.mk [] (0:Int) (0:Int) []))) (Int.toNat (↑x_1.1:Int)) LI.none)) x_1.2) (false=mayB p) (brP (!ilt x_1.2 (Int.ofNat (List.length (LP.sites p)))) (false=mayB p) (sdA (inB x_1.2 (List.length (LP.sites p))) (brP (!(ieq (LS.func (List.getD (LP.sites p) (Int.toNat x_1.2) (LS.mk (0:Int) (0:Int)))) (↑x.1:Int) && (ieq (LS.at_ (List.getD (LP.sites p) (Int.toNat x_1.2) (LS.mk (0:Int) (0:Int)))) (↑x_1.1:Int) && true))) (false=mayB p) (sdA (inR IntKind.i64 (x_1.2 + (1:Int))) (∃ (x_2:Int),(∀ (a b:Int),some (AV.int IntKind.i64 (↑x.1:Int))=some (AV.int IntKind.i64 a)→some (AV.int IntKind.i64 (↑x_1.1:Int))=some (AV.int IntKind.i64 b)→InM p (Int.toNat a) (Int.toNat b + 1) x_2)∧true=true∧((true=true∧x_1.2 + (1:Int)=x_2)∧JrE_runMayR_k0 x x_1)∧JrE_runMayR_k4 p x))))))))∧∀ (x_2:Int),(∀ (a b:Int),some (AV.int IntKind.i64 (↑x.1:Int))=some (AV.int IntKind.i64 a)→some (AV.int IntKind.i64 (↑x_1.1:Int))=some (AV.int IntKind.i64 b)→InM p (Int.toNat a) (Int.toNat b + 1) x_2)→sdA (inR IntKind.i64 ((↑x_1.1:Int) + (1:Int))) (∃ (x':Nat×Int),(∀ (a:Int),some (AV.int IntKind.i64 (↑x.1:Int))=some (AV.int IntKind.i64 a)→InM p (Int.toNat a) x'.1 x'.2)∧Nat.le (Nat.succ (2000000 - x'.1)) (2000000 - x_1.1)∧true=true∧((true=true∧x_2=x'.2)∧(true=true∧(↑x_1.1:Int) + (1:Int)=(↑x'.1:Int))∧(some 0=some 0∧true=true)∧(true=true∧(↑x.1:Int)=(↑x.1:Int))∧(some 3=some 3∧true=true)∧True)∧JrE_runMayR_k4 p x)) (sdA (inR IntKind.i64 (Int.ofNat (List.length (LF.code (List.getD (LP.funcs p) (Int.toNat (↑x.1:Int)) (LF.mk [] (0:Int) (0:Int) [])))) - (1:Int))) (sdA (inB (Int.ofNat (List.length (LF.code (List.getD (LP.funcs p) (Int.toNat (↑x.1:Int)) (LF.mk [] (0:Int) (0:Int) [])))) - (1:Int)) (List.length (LF.code (List.getD (LP.funcs p) (Int.toNat (↑x.1:Int)) (LF.mk [] (0:Int) (0:Int) []))))) (brP (!ieq (LI.op (List.getD (LF.code (List.getD (LP.funcs p) (Int.toNat (↑x.1:Int)) (LF.mk [] (0:Int) (0:Int) []))) (Int.toNat (Int.ofNat (List.length (LF.code (List.getD (LP.funcs p) (Int.toNat (↑x.1:Int)) (LF.mk [] (0:Int) (0:Int) [])))) - (1:Int))) LI.none)) (33:Int)) (brP (!ieq (LI.op (List.getD (LF.code (List.getD (LP.funcs p) (Int.toNat (↑x.1:Int)) (LF.mk [] (0:Int) (0:Int) []))) (Int.toNat (Int.ofNat (List.length (LF.code (List.getD (LP.funcs p) (Int.toNat (↑x.1:Int)) (LF.mk [] (0:Int) (0:Int) [])))) - (1:Int))) LI.none)) (31:Int)) (false=mayB p) (sdA (inR IntKind.i64 ((↑x.1:Int) + (1:Int))) (∃ (x':Nat×Int),JrE_runMayR_k3 p x x_1 x'))) (sdA (inR IntKind.i64 ((↑x.1:Int) + (1:Int))) (∃ (x':Nat×Int),JrE_runMayR_k3 p x x_1 x'))))))))))))) (brP (ieq x.2 (Int.ofNat (List.length (LP.sites p)))) ((!ilt (512:Int) x.2)=mayB p) (false=mayB p)))
:= by
 intro p hs
 simp only [barr_eq,bar_eq,true_and,and_true,eq_self,implies_true,Nat.le_eq,cond_tf,cond_cf,nif_tf,Int.toNat_natCast,Int.ofNat_eq_natCast,Nat.ble_eq,Nat.ble_self_eq_true,Bool.true_and,Bool.and_true,Bool.and_self,Option.some.injEq,AV.int.injEq,rowB_self,allBR_self,Nat.mul_one,Nat.beq_refl,allI_true,cond_true,cond_false,ieq_self,Bool.not_true,Bool.not_false,decide_true,brP_f,brP_t,sdA_t,bytesL_packL,List.nil_append,JrE_runMayR_k0,JrE_runMayR_k1,JrE_runMayR_k2,JrE_runMayR_k3,JrE_runMayR_k4]
 have hd:dLP [AV.vec 1 p.loopers.length (rB p.loopers),AV.vec 3 p.classes.length (rLC p.classes),AV.vec 2 p.globals.length (rLG p.globals),AV.vec 4 p.funcs.length (rLF p.funcs),AV.vec 6 p.comps.length (rLM p.comps),AV.vec 4 p.events.length (rLE p.events),AV.int IntKind.i64 p.main,AV.vec 2 p.sites.length (rLS p.sites)]=p:=dLP_row p
 have hf:∀ F:LF,dLF [AV.bs F.name,AV.int IntKind.i64 F.cap,AV.int IntKind.i64 F.regs,AV.vec 8 F.code.length (rLI F.code)]=F:=dLF_row
 have hx:∀ X:LI,dLI [AV.int IntKind.i64 X.op,AV.int IntKind.i64 X.a,AV.int IntKind.i64 X.b,AV.int IntKind.i64 X.c,AV.int IntKind.i64 X.n,AV.vec 1 X.l.length (rI X.l),AV.int IntKind.i64 X.site,AV.int IntKind.i64 X.line]=X:=dLI_row
 have hz:(⟨[],0,0,[]⟩:LF)=LF.none:=rfl
 simp only [hd,hf,hx,hz]
 refine ⟨⟨p,rfl⟩,brP_of (fun h=>mb_parts (nf h)) fun hp=>⟨⟨(0,0),⟨Nat.zero_le _,rfl,⟨p.sites,rfl⟩,fun j hj=>by omega⟩,rfl,rfl⟩,fun x hO=>?_⟩⟩
 obtain ⟨i,m⟩:=x
 simp only at hO ⊢
 have hp:=nt hp
 refine brP_of (fun h=>?_) fun h=>?_
 ·rw [ilt_iff] at h
  have hi:i < p.funcs.length:=by omega
  have hin:inB (i:Int) p.funcs.length=true:=inB_iff.2 (by omega)
  refine sdA_of hin (brP_of (fun h=>mb_func hi (f_head fun c=>by have:=ilt_iff.1 h;omega)) fun c1=>brP_of (fun h=>mb_func hi (f_head fun c=>by have:=ilt_iff.1 h;omega)) fun c2=>brP_of (fun h=>mb_func hi (f_head fun c=>by have:=ilt_iff.1 h;omega)) fun c3=>brP_of (fun h=>mb_func hi (f_head fun c=>by have:=ilt_iff.1 h;omega)) fun c4=>brP_of (fun h=>mb_func hi (f_head fun c=>by have:=ilt_iff.1 h;omega)) fun c5=>brP_of (fun h=>mb_func hi (f_head fun c=>by have:=ilt_iff.1 h;omega)) fun c6=>?_)
  rw [ilt_iffn] at c1 c2 c3 c4 c5 c6
  have hh:0≤(p.funcs.getD i LF.none).regs∧(p.funcs.getD i LF.none).regs≤256∧0≤(p.funcs.getD i LF.none).cap∧(p.funcs.getD i LF.none).cap≤(p.funcs.getD i LF.none).regs∧1≤(p.funcs.getD i LF.none).code.length∧(p.funcs.getD i LF.none).code.length≤512:=by omega
  have hip:i < 1000001:=by
   unfold partsB countB at hp
   simp only [Bool.and_eq_true,decide_eq_true_eq] at hp
   omega
  clear c1 c2 c3 c4 c5 c6
  refine ⟨⟨(0,m),fun a ha=>by subst ha;exact hO.inn,rfl,rfl⟩,fun y hy=>?_⟩
  obtain ⟨k,n⟩:=y
  have hI:InM p i k n:=hy _ rfl
  clear hy
  simp only
  refine brP_of (fun h=>?_) fun h=>?_
  ·rw [ilt_iff] at h
   have hk:k < (p.funcs.getD i LF.none).code.length:=by omega
   have hink:inB (k:Int) (p.funcs.getD i LF.none).code.length=true:=inB_iff.2 (by omega)
   refine ⟨sdA_of hink ⟨⟨p,_,_,rfl,rfl,rfl,Nat.le_trans (hs.l i k) (by decide)⟩,brP_of (fun h=>mb_func hi (f_at hk (at_instr (nf h)))) fun hin=>brP_of (fun hsi=>brP_of (fun h=>?_) fun h=>?_) fun hsi=>brP_of (fun h=>?_) fun h=>brP_of (fun h1=>?_) fun h1=>?_⟩,fun n' hn'=>?_⟩
   ·rw [Bool.not_eq_true',ieq_iffn] at h
    exact mb_func hi (f_at hk (at_no (nf hsi) h))
   ·rw [Bool.not_eq_false',ieq_iff] at h
    exact ⟨n,fun a b ha hb=>by subst ha;subst hb;exact hI.no hk (nf hsi) (at_okN (nt hin) (nf hsi) h),rfl⟩
   ·rw [Bool.not_eq_true',ieq_iffn] at h
    exact mb_func hi (f_at hk (at_yes (nt hsi) (by rw [← hI.n];exact h)))
   ·rw [Bool.not_eq_true',ilt_iffn] at h1
    exact mb_sites (k:=k + 1) hi hk fun hq=>by
     rw [to_yes (nt hsi)] at hq
     have:=(pre_get hq).1
     have:=hI.n
     omega
   ·rw [Bool.not_eq_false',ilt_iff] at h1
    rw [Bool.not_eq_false',ieq_iff] at h
    have hn:=hI.n
    have hsl:=hs.sites
    refine sdA_of (inB_iff.2 (by omega)) (brP_of (fun h2=>?_) fun h2=>sdA_of (inR_i64.2 (by omega)) ⟨n + 1,fun a b ha hb=>by
     subst ha;subst hb
     refine hI.yes hk (nt hsi) (at_okY (nt hin) (nt hsi) (by rw [← hn];exact h)) (by omega) ?_
     rw [Bool.not_eq_false',Bool.and_eq_true,ieq_iff,ieq_iff,show n.toNat=(sitesTo p i k).length by omega] at h2
     generalize p.sites.getD (sitesTo p i k).length ⟨0,0⟩=q at h2 ⊢
     cases q
     simp only at h2
     rw [h2.1,h2.2],rfl⟩)
    rw [Bool.not_eq_true',show n.toNat=(sitesTo p i k).length by omega] at h2
    refine mb_sites (k:=k + 1) hi hk fun hq=>?_
    rw [to_yes (nt hsi)] at hq
    rw [(pre_get hq).2,ieq_self,ieq_self] at h2
    cases h2
   ·have hJ:=hn' _ _ rfl rfl
    simp only [Int.toNat_natCast] at hJ
    exact sdA_of (inR_i64.2 (by omega)) ⟨(k + 1,n'),fun a ha=>by subst ha;exact hJ,by simp only;omega,rfl,by simp⟩
  ·rw [ilt_iffn] at h
   have hke:k=(p.funcs.getD i LF.none).code.length:=by have:=hI.le;omega
   have ht:((p.funcs.getD i LF.none).code.length - 1:Int).toNat=(p.funcs.getD i LF.none).code.length - 1:=by omega
   refine sdA_of (inR_i64.2 (by omega)) (sdA_of (inB_iff.2 (by omega)) ?_)
   rw [ht]
   refine brP_of (fun h1=>brP_of (fun h2=>?_) fun h2=>?_) fun h1=>?_
   ·rw [Bool.not_eq_true',ieq_iffn] at h1 h2
    exact mb_func hi (f_last fun c=>by rcases c with c | c <;> contradiction)
   ·rw [Bool.not_eq_false',ieq_iff] at h2
    exact sdA_of (inR_i64.2 (by omega)) ⟨(i + 1,n),hI.out hO hi hke hh (.inr h2),by simp only;omega,rfl,by simp⟩
   ·rw [Bool.not_eq_false',ieq_iff] at h1
    exact sdA_of (inR_i64.2 (by omega)) ⟨(i + 1,n),hI.out hO hi hke hh (.inl h1),by simp only;omega,rfl,by simp⟩
 ·rw [ilt_iffn] at h
  have hge:p.funcs.length≤i:=by omega
  refine brP_of (fun h1=>?_) fun h1=>?_
  ·rw [ieq_iff] at h1
   rw [hO.fin hge hp h1,h1,ilt_eq]
   by_cases h5:p.sites.length≤512
   ·rw [decide_eq_true h5,decide_eq_false (by omega)];rfl
   ·rw [decide_eq_false h5,decide_eq_true (by omega)];rfl
  ·rw [ieq_iffn] at h1
   exact hO.bad hge h1
theorem runMayR:∀ (p:LP),LP.Small p→(cRun (cxM p) 100).call 5 [.agg (LP.row p)] .leaf 0 (ResM Tryz.prog false (.bool (mayB p))) :=
 Eq.mpr (by kernel_rfl) runMayR_r
noncomputable def eMayR:Tr AObj→List AV→Option Ct:=fun _ args=>match args with
 | [.agg l]=>some (.need (∃ p,l=LP.row p∧LP.Small p) (.ret (.bool (bar (mayB (dLP l))))))
 | _=>none
theorem okMayR:EntOK Tryz.prog 5 eMayR:=by
 refine ent_of2 (gl:=[]) (ng:=0) gl0 fun H args ct hct=>?_
 unfold eMayR at hct
 split at hct
 ·rename_i l
  injection hct with hct;subst hct
  refine ⟨gl0,_,_,rfl,?_⟩
  rintro ⟨p,rfl,hs⟩
  rw [dLP_row,bar_eq]
  exact ⟨⟨vm_LP p,trivial⟩,cxM p,100,rfl,fol,tb_cons okPartsR (tb_cons okInstrR (tb_cons (okSite runSiteR) tb_nil)),runMayR p hs⟩
 ·cases hct
end Go.Proofs.YtedpjdkikbgojaaGreatDoor
