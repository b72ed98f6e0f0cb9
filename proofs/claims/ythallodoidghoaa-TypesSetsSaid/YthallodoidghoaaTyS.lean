/- Laid by program out of its parts: TyS. -/
import Derived.Test.YthallodoidghoaaTyR
set_option linter.unusedVariables false
set_option linter.unusedSimpArgs false
set_option maxRecDepth 100000
set_option maxHeartbeats 2000000
open Go Go.Ev
namespace Go.Proofs.Ythallodoidghoaa
noncomputable def rAll:REnt:=fun _ args=>match args with
 | [.agg [.vec 6 n f],.agg q]=>some ⟨List Int×List Bool×List Bool,(∃ (L:List LT) (x:LN),n=L.length∧f=rowT L∧q=x.row∧Good L∧MOK L x.M∧COK L x.C∧T5OK L x),fun y=>∀ (L:List LT) (x:LN),n=L.length→f=rowT L→q=x.row→A5I L x 0 y.1 y.2.1 y.2.2,fun y=>.pv (.vec 6 n f :: (q ++ [vI y.1,vB y.2.1,vB y.2.2]))⟩
 | _=>none
theorem ext_getD {α:Type} {d:α} {l l':List α} (h:l.length=l'.length) (h2:∀ i,l.getD i d=l'.getD i d):l=l':=by
 apply List.ext_getElem h
 intro i h1 h3
 have:=h2 i
 rwa [List.getD_eq_getElem?_getD,List.getD_eq_getElem?_getD,List.getElem?_eq_getElem h1,List.getElem?_eq_getElem h3] at this
theorem vI_inj {l l':List Int} (h:vI l=vI l'):l=l':=by
 unfold vI at h
 injection h with h1 h2 h3
 refine ext_getD (d:=(0:Int)) h2 fun i=>?_
 have:=congrFun h3 i
 injection this with a b
 injection a
theorem vM_inj {l l':List (Int×Int)} (h:AV.vec 2 l.length (rM l)=AV.vec 2 l'.length (rM l')):l=l':=by
 injection h with h1 h2 h3
 refine ext_getD (d:=((0:Int),(0:Int))) h2 fun i=>?_
 have:=congrFun h3 i
 injection this with a b
 injection b with b c
 injection a with _ a
 injection b with _ b
 exact Prod.ext a b
theorem vF_inj {l l':List LFn} (h:AV.vec 4 l.length (rFn l)=AV.vec 4 l'.length (rFn l')):l=l':=by
 injection h with h1 h2 h3
 refine ext_getD (d:=LFn.none) h2 fun i=>?_
 have:=congrFun h3 i
 unfold rFn at this
 generalize l.getD i LFn.none=u at this
 generalize l'.getD i LFn.none=v at this
 obtain ⟨u1,u2,u3,u4⟩:=u
 obtain ⟨v1,v2,v3,v4⟩:=v
 injection this with a b
 injection b with b c
 injection c with c d
 injection d with d e
 injection a with _ a
 injection b with _ b
 injection c with c
 have d:u4=v4:=vI_inj d
 have a:u1=v1:=a
 have b:u2=v2:=b
 have c:u3=v3:=c
 rw [a,b,c,d]
theorem row_inj {x y:LN} (h:x.row=y.row):x=y:=by
 obtain ⟨x1,x2,x3,x4,x5,x6,x7,x8,x9⟩:=x
 obtain ⟨y1,y2,y3,y4,y5,y6,y7,y8,y9⟩:=y
 unfold LN.row at h
 simp only at h
 injection h with a h
 injection h with b h
 injection h with c h
 injection h with d h
 injection h with e h
 injection h with f h
 injection h with g h
 injection h with k h
 injection h with m h
 have a:=vM_inj a
 have b:=vI_inj b
 have c:=vI_inj c
 have d:=vI_inj d
 have e:=vI_inj e
 have f:=vI_inj f
 have g:=vI_inj g
 have k:=vF_inj k
 injection m with _ m
 subst a;subst b;subst c;subst d;subst e;subst f;subst g;subst k;subst m
 rfl
end Go.Proofs.Ythallodoidghoaa
