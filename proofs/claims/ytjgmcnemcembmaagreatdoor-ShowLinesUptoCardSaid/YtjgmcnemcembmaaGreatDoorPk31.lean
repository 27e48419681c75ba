import Derived.Test.YtjgmcnemcembmaaGreatDoorPk21
set_option linter.unusedSimpArgs false
set_option linter.unusedVariables false
namespace Go.Proofs.YtjgmcnemcembmaaGreatDoor
open Go Go.TL
attribute [local irreducible] TR TO Then InBlock RetK Sound LoopK Kf GG ThenL
theorem enumR_sound(u:En)(hw:u.tags.length≤1000000000):Pure Tryz.prog 58 [.t (.ag [.s u.name,.sl 1 (u.tags.map T.s)])] (.i (enumE u)):=by
 have hi:=identR_sound u.name
 have hml:(u.tags.map T.s).length=u.tags.length:=List.length_map _
 have hz:enumE u=enumE u:=rfl
 conv at hz=>rhs;unfold enumE orE
 have hq0:identE u.name=(if ident u.name=true then 0 else 6):=rfl
 generalize enumE u=z at hz⊢
 refine so Tryz.func58 ?_
 repeat' (first|refine wu ?_|exact wkc|intro hc|refine wk2 ?_ ?_|refine wb hi ?_ ?_|fail)
 all_goals first
  | ((repeat' (first|refine LoopK.ret ?_|refine wk ?_|fail));refine RetK.pure rfl (Le.of_eq ?_) rfl;clear hi;refine congrArg (fun z=>SV.t (T.v (Value.int IntKind.i64 z))) ?_;grind)
  | skip
 have hz2:z=firstE identE u.tags:=by rw[hz];clear hi;grind
 clear hz
 generalize u.tags=l at*
 refine TR.loopN l.length (fun k=>firstE identE (l.take k)=0) (fun k=>[(1,.cp [.s u.name,.sl 1 (l.map T.s)] 0),(3,.i k)]) (fun _=>[]) rfl (fun k hlt ha=>?_) (fun ha=>?_)
 ·have hx:=at_s hlt
  have g1:=firstE_at (f:=identE) hlt ha
  have g2:=firstE_next (f:=identE) hlt ha
  generalize l[k]=x at*
  have hs:=identR_sound x
  have hq:identE x=identE x:=rfl
  conv at hq=>rhs;unfold identE
  generalize identE x=xe at*
  repeat' (first|refine wu ?_|exact wkc|intro hc|refine wk2 ?_ ?_|refine wb hs ?_ ?_|fail)
  all_goals first
   | exact LoopK.nextN hlt (g2 (by clear hs hi;grind))
   | ((repeat' (first|refine LoopK.ret ?_|refine wk ?_|fail));refine RetK.pure rfl (Le.of_eq ?_) rfl;clear hs hi hx;refine congrArg (fun z=>SV.t (T.v (Value.int IntKind.i64 z))) ?_;grind)
 ·have e1:=firstE_all ha
  repeat' (first|refine wu ?_|exact wkc|intro hc|refine wk2 ?_ ?_|fail)
  all_goals((repeat' (first|refine LoopK.ret ?_|refine wk ?_|fail));refine RetK.pure rfl (Le.of_eq ?_) rfl;clear hi;refine congrArg (fun z=>SV.t (T.v (Value.int IntKind.i64 z))) ?_;grind)
theorem declR_sound(es:List En)(d:Decl)(port:Bool)(hw:d.clock.length≤1000000000):Pure Tryz.prog 127 [.t (ensT es),.t (.ag (declC d)),.b port] (.i (declE es port d)):=by
 have hi:=identR_sound d.name
 have hv:=valid_sound es d.ty
 have hml:(d.clock.map onT).length=d.clock.length:=List.length_map _
 have hz:declE es port d=declE es port d:=rfl
 conv at hz=>rhs;unfold declE orE identE
 generalize declE es port d=z at hz⊢
 unfold declC
 refine so Tryz.func127 ?_
 cases port
 all_goals
  repeat' (first|refine wu ?_|exact wkc|intro hc|refine wk2 ?_ ?_|refine wb hi ?_ ?_|refine wb hv ?_ ?_|fail)
 all_goals first
  | ((repeat' (first|refine LoopK.ret ?_|refine wk ?_|fail));refine RetK.pure rfl (Le.of_eq ?_) rfl;clear hi hv;refine congrArg (fun z=>SV.t (T.v (Value.int IntKind.i64 z))) ?_;grind)
  | skip
 all_goals
  have hz2:z=firstE (onE es) d.clock:=by rw[hz];clear hi hv;grind
  clear hz
  generalize d.clock=l at*
  refine TR.loopN l.length (fun k=>firstE (onE es) (l.take k)=0) (fun k=>[(0,.t (ensT es)),(4,.cp [.s d.name,T.n d.ty,.sl 3 (l.map onT)] 0),(7,.i k)]) (fun _=>[]) rfl (fun k hlt ha=>?_) (fun ha=>?_)
  ·have hx:=at_on hlt
   have g1:=firstE_at (f:=onE es) hlt ha
   have g2:=firstE_next (f:=onE es) hlt ha
   generalize l[k]=x at*
   have hs:=identR_sound x.name
   have hh:=hasR_sound es x.t x.tag
   have hq:onE es x=onE es x:=rfl
   conv at hq=>rhs;unfold onE orE identE
   generalize onE es x=xe at*
   repeat' (first|refine wu ?_|exact wkc|intro hc|refine wk2 ?_ ?_|refine wb hs ?_ ?_|refine wb hh ?_ ?_|fail)
   all_goals first
    | exact LoopK.nextN hlt (g2 (by clear hs hi hv hh;grind))
    | ((repeat' (first|refine LoopK.ret ?_|refine wk ?_|fail));refine RetK.pure rfl (Le.of_eq ?_) rfl;clear hs hi hx hv hh;refine congrArg (fun z=>SV.t (T.v (Value.int IntKind.i64 z))) ?_;grind)
  ·have e1:=firstE_all ha
   repeat' (first|refine wu ?_|exact wkc|intro hc|refine wk2 ?_ ?_|fail)
   all_goals((repeat' (first|refine LoopK.ret ?_|refine wk ?_|fail));refine RetK.pure rfl (Le.of_eq ?_) rfl;clear hi hv;refine congrArg (fun z=>SV.t (T.v (Value.int IntKind.i64 z))) ?_;grind)
theorem declsR_sound(es:List En)(l:List Decl)(port:Bool)(hw:(declsT l).w≤1000000000):Pure Tryz.prog 96 [.t (ensT es),.t (declsT l),.b port] (.i (firstE (declE es port) l)):=by
 have hml:(l.map declT).length=l.length:=List.length_map _
 have hlb:l.length≤1000000000:=Nat.le_trans (Nat.le_of_lt (w_lenM declT 3 l)) hw
 refine so Tryz.func96 ?_
 repeat' (first|refine wu ?_|exact wkc|intro hc|refine wk2 ?_ ?_|fail)
 refine TR.loopN l.length (fun k=>firstE (declE es port) (l.take k)=0) (fun k=>[(0,.t (ensT es)),(1,.t (declsT l)),(2,.b port),(7,.i k)]) (fun _=>[]) rfl (fun k hlt ha=>?_) (fun ha=>?_)
 ·have hx:=at_decl hlt
  have g1:=firstE_at (f:=declE es port) hlt ha
  have g2:=firstE_next (f:=declE es port) hlt ha
  have hcl:=w_lenM onT 3 l[k].clock
  have hwx:=w_inM (f:=declT) (sz:=3) (List.getElem_mem hlt)
  rw[show declT l[k]= .ag (declC l[k]) from rfl,w_ag]at hwx
  simp only[declC,List.map_cons,List.map_nil,List.sum_cons,List.sum_nil]at hwx
  have hs:=declR_sound es l[k] port (by have:(declsT l).w=(T.sl 3 (l.map declT)).w:=rfl;omega)
  generalize declE es port l[k]=xe at*
  generalize l[k]=x at*
  unfold declC at hx hs
  repeat' (first|refine wu ?_|exact wkc|intro hc|refine wk2 ?_ ?_|refine wv hs ?_|fail)
  all_goals first
   | exact LoopK.nextN hlt (g2 (by clear hs;omega))
   | ((repeat' (first|refine LoopK.ret ?_|refine wk ?_|fail));refine RetK.pure rfl (Le.of_eq ?_) rfl;clear hs hx;refine congrArg (fun z=>SV.t (T.v (Value.int IntKind.i64 z))) ?_;grind)
 ·have e1:=firstE_all ha
  repeat' (first|refine wu ?_|exact wkc|intro hc|refine wk2 ?_ ?_|fail)
  all_goals((repeat' (first|refine LoopK.ret ?_|refine wk ?_|fail));refine RetK.pure rfl (Le.of_eq ?_) rfl;clear hml;refine congrArg (fun z=>SV.t (T.v (Value.int IntKind.i64 z))) ?_;grind)
theorem equR_sound(es:List En)(u:Equ)(hw:(equT u).w≤1000000000):Pure Tryz.prog 60 [.t (ensT es),.t (.ag (equC u))] (.i (equE es u)):=by
 have hx:=exprR_sound es u.right (Nat.le_trans wEx_equ hw)
 have hlb:u.left.length≤1000000000:=Nat.le_trans left_equ hw
 have hml:(u.left.map T.s).length=u.left.length:=List.length_map _
 have hz:equE es u=equE es u:=rfl
 conv at hz=>rhs;unfold equE orE
 rw[exT_eq]at hx
 unfold exC at hx
 unfold equC
 generalize equE es u=z at hz⊢
 generalize exprX es u.right=xe at*
 refine so Tryz.func60 ?_
 repeat' (first|refine wu ?_|exact wkc|intro hc|refine wk2 ?_ ?_|fail)
 all_goals first
  | ((repeat' (first|refine LoopK.ret ?_|refine wk ?_|fail));refine RetK.pure rfl (Le.of_eq ?_) rfl;clear hx;refine congrArg (fun z=>SV.t (T.v (Value.int IntKind.i64 z))) ?_;grind)
  | skip
 generalize u.left=l at*
 refine TR.loopN l.length (fun k=>firstE identE (l.take k)=0) (fun k=>[(0,.t (ensT es)),(3,.cp [.sl 1 (l.map T.s),T.n u.right.kind,T.n u.right.op,T.n u.right.t,T.n u.right.v,.s u.right.name,.sl 6 (u.right.args.map exT)] 0),(5,.i k)]) (fun _=>[]) rfl (fun k hlt ha=>?_) (fun ha=>?_)
 ·have hy:=at_s hlt
  have g1:=firstE_at (f:=identE) hlt ha
  have g2:=firstE_next (f:=identE) hlt ha
  generalize l[k]=x at*
  have hs:=identR_sound x
  have hq:identE x=identE x:=rfl
  conv at hq=>rhs;unfold identE
  generalize identE x=ye at*
  repeat' (first|refine wu ?_|exact wkc|intro hc|refine wk2 ?_ ?_|refine wb hs ?_ ?_|fail)
  all_goals first
   | exact LoopK.nextN hlt (g2 (by clear hs hx;grind))
   | ((repeat' (first|refine LoopK.ret ?_|refine wk ?_|fail));refine RetK.pure rfl (Le.of_eq ?_) rfl;clear hs hx hy;refine congrArg (fun z=>SV.t (T.v (Value.int IntKind.i64 z))) ?_;grind)
 ·have e1:=firstE_all ha
  repeat' (first|refine wu ?_|exact wkc|intro hc|refine wk2 ?_ ?_|refine wv hx ?_|fail)
  all_goals((repeat' (first|refine LoopK.ret ?_|refine wk ?_|fail));refine RetK.pure rfl (Le.of_eq ?_) rfl;clear hx;refine congrArg (fun z=>SV.t (T.v (Value.int IntKind.i64 z))) ?_;grind)
theorem transR_sound(es:List En)(l:List Tran)(states:Int)(strong:Bool)(hw:(T.sl 8 (l.map tranT)).w≤1000000000):Pure Tryz.prog 145 [.t (ensT es),.t (.sl 8 (l.map tranT)),.i states,.b strong] (.i (firstE (tranE es states strong) l)):=by
 have hml:(l.map tranT).length=l.length:=List.length_map _
 have hlb:l.length≤1000000000:=Nat.le_trans (Nat.le_of_lt (w_lenM tranT 8 l)) hw
 refine so Tryz.func145 ?_
 repeat' (first|refine wu ?_|exact wkc|intro hc|refine wk2 ?_ ?_|fail)
 refine TR.loopN l.length (fun k=>firstE (tranE es states strong) (l.take k)=0) (fun k=>[(0,.t (ensT es)),(1,.t (.sl 8 (l.map tranT))),(2,.i states),(3,.b strong),(9,.i k)]) (fun _=>[]) rfl (fun k hlt ha=>?_) (fun ha=>?_)
 ·have hx:=at_tran hlt
  have g1:=firstE_at (f:=tranE es states strong) hlt ha
  have g2:=firstE_next (f:=tranE es states strong) hlt ha
  have hwx:=w_inM (f:=tranT) (sz:=8) (List.getElem_mem hlt)
  generalize l[k]=x at*
  have hwe:wEx x.cond≤1000000000:=by have:=wEx_tran (t:=x);omega
  have hex:=exprR_sound es x.cond hwe
  have hst:=statelessR_sound x.cond hwe
  rw[exT_eq]at hex
  unfold exC at hex hst
  unfold tranC at hx
  have hz:tranE es states strong x=tranE es states strong x:=rfl
  conv at hz=>rhs;unfold tranE orE
  generalize tranE es states strong x=z at*
  generalize exprX es x.cond=xe at*
  generalize sless x.cond=sl at*
  cases strong
  all_goals
   repeat' (first|refine wu ?_|exact wkc|intro hc|refine wk2 ?_ ?_|refine wv hex ?_|refine wb hst ?_ ?_|fail)
  all_goals first
   | exact LoopK.nextN hlt (g2 (by clear hex hst;grind))
   | ((repeat' (first|refine LoopK.ret ?_|refine wk ?_|fail));refine RetK.pure rfl (Le.of_eq ?_) rfl;clear hex hst hx;refine congrArg (fun z=>SV.t (T.v (Value.int IntKind.i64 z))) ?_;grind)
 ·have e1:=firstE_all ha
  repeat' (first|refine wu ?_|exact wkc|intro hc|refine wk2 ?_ ?_|fail)
  all_goals((repeat' (first|refine LoopK.ret ?_|refine wk ?_|fail));refine RetK.pure rfl (Le.of_eq ?_) rfl;clear hml;refine congrArg (fun z=>SV.t (T.v (Value.int IntKind.i64 z))) ?_;grind)
theorem stR_sound(es:List En)(F:Auto->Int)(d:Int)(hd:0≤d/\d≤100)(hau:∀x,(autoT x).w≤1000000000->Pure Tryz.prog 97 [.t (ensT es),.t (.ag (autoC x)),.i (d+1)] (.i (F x)))
  (x:Sta)(n:Int)(hw:(staT x).w≤1000000000):Pure Tryz.prog 128 [.t (ensT es),.t (.ag (staC x)),.i n,.i d] (.i (stE es F n x)):=by
 have hws:=w_sta x
 have hl1:=w_lenM equT 7 x.eqs
 have hl2:=w_lenM autoT 1 x.autos
 have m1:(x.locals.map declT).length=x.locals.length:=List.length_map _
 have m2:(x.eqs.map equT).length=x.eqs.length:=List.length_map _
 have m3:(x.autos.map autoT).length=x.autos.length:=List.length_map _
 have m4:(x.unl.map tranT).length=x.unl.length:=List.length_map _
 have m5:(x.unt.map tranT).length=x.unt.length:=List.length_map _
 have hi:=identR_sound x.name
 have hd1:=declsR_sound es x.locals false (by omega)
 have ht1:=transR_sound es x.unl n true (by omega)
 have ht2:=transR_sound es x.unt n false (by omega)
 have heq:∀u,u∈x.eqs->Pure Tryz.prog 60 [.t (ensT es),.t (.ag (equC u))] (.i (equE es u)):=fun u hu=>equR_sound es u (by have:=w_inM (f:=equT) (sz:=7) hu;omega)
 have hau2:∀u,u∈x.autos->Pure Tryz.prog 97 [.t (ensT es),.t (.ag (autoC u)),.i (d+1)] (.i (F u)):=fun u hu=>hau u (by have:=w_inM (f:=autoT) (sz:=1) hu;omega)
 clear hau
 have hz:stE es F n x=stE es F n x:=rfl
 conv at hz=>rhs;unfold stE orE
 have hq0:identE x.name=(if ident x.name=true then 0 else 6):=rfl
 generalize stE es F n x=z at hz⊢
 unfold staC
 refine so Tryz.func128 ?_
 repeat' (first|refine wu ?_|exact wkc|intro hc|refine wk2 ?_ ?_|refine wb hi ?_ ?_|refine wv hd1 ?_|fail)
 all_goals first
  | ((repeat' (first|refine LoopK.ret ?_|refine wk ?_|fail));refine RetK.pure rfl (Le.of_eq ?_) rfl;clear hi hd1 ht1 ht2 heq hau2;refine congrArg (fun z=>SV.t (T.v (Value.int IntKind.i64 z))) ?_;grind)
  | skip
 refine TR.loopN x.eqs.length (fun k=>firstE (equE es) (x.eqs.take k)=0) (fun k=>[(0,.t (ensT es)),(2,.i n),(3,.i d),(5,.cp [.s x.name,declsT x.locals,.sl 7 (x.eqs.map equT),.sl 1 (x.autos.map autoT),.sl 8 (x.unl.map tranT),.sl 8 (x.unt.map tranT)] 0),(10,.i k)]) (fun _=>[]) rfl (fun k hlt ha=>?_) (fun ha=>?_)
 ·have hx:=at_equ hlt
  have g1:=firstE_at (f:=equE es) hlt ha
  have g2:=firstE_next (f:=equE es) hlt ha
  have hs:=heq _ (List.getElem_mem hlt)
  generalize equE es x.eqs[k]=xe at*
  generalize x.eqs[k]=u at*
  unfold equC at hx hs
  repeat' (first|refine wu ?_|exact wkc|intro hc|refine wk2 ?_ ?_|refine wv hs ?_|fail)
  all_goals first
   | exact LoopK.nextN hlt (g2 (by clear hi hd1 ht1 ht2 heq hau2 hs;omega))
   | ((repeat' (first|refine LoopK.ret ?_|refine wk ?_|fail));refine RetK.pure rfl (Le.of_eq ?_) rfl;clear hs hx hi hd1 ht1 ht2 heq hau2;refine congrArg (fun z=>SV.t (T.v (Value.int IntKind.i64 z))) ?_;grind)
 have e1:=firstE_all ha
 refine wk ?_
 repeat' (first|refine wu ?_|exact wkc|intro hc|refine wk2 ?_ ?_|fail)
 refine TR.loopN x.autos.length (fun k=>firstE F (x.autos.take k)=0) (fun k=>[(0,.t (ensT es)),(2,.i n),(3,.i d),(5,.cp [.s x.name,declsT x.locals,.sl 7 (x.eqs.map equT),.sl 1 (x.autos.map autoT),.sl 8 (x.unl.map tranT),.sl 8 (x.unt.map tranT)] 0),(11,.i k)]) (fun _=>[]) rfl (fun k hlt ha=>?_) (fun ha=>?_)
 ·have hx:=at_auto hlt
  have g1:=firstE_at (f:=F) hlt ha
  have g2:=firstE_next (f:=F) hlt ha
  have hs:=hau2 _ (List.getElem_mem hlt)
  generalize F x.autos[k]=xe at*
  generalize x.autos[k]=u at*
  unfold autoC at hx hs
  repeat' (first|refine wu ?_|exact wkc|intro hc|refine wk2 ?_ ?_|refine wv hs ?_|fail)
  all_goals first
   | exact LoopK.nextN hlt (g2 (by clear hi hd1 ht1 ht2 heq hau2 hs;omega))
   | ((repeat' (first|refine LoopK.ret ?_|refine wk ?_|fail));refine RetK.pure rfl (Le.of_eq ?_) rfl;clear hs hx hi hd1 ht1 ht2 heq hau2;refine congrArg (fun z=>SV.t (T.v (Value.int IntKind.i64 z))) ?_;grind)
 have e2:=firstE_all ha
 refine wk ?_
 repeat' (first|refine wu ?_|exact wkc|intro hc|refine wk2 ?_ ?_|refine wv ht1 ?_|refine wv ht2 ?_|fail)
 all_goals((repeat' (first|refine LoopK.ret ?_|refine wk ?_|fail));refine RetK.pure rfl (Le.of_eq ?_) rfl;clear hi hd1 ht1 ht2 heq hau2;refine congrArg (fun z=>SV.t (T.v (Value.int IntKind.i64 z))) ?_;grind)
theorem autoR_sound'(es:List En):∀(k:Nat) (d:Int),k≤3->d+k=3->∀(a:Auto),(autoT a).w≤1000000000->Pure Tryz.prog 97 [.t (ensT es),.t (.ag (autoC a)),.i d] (.i (autoE es k a))
 | 0,d,_,hd,a,_=>by
   unfold autoE autoC
   refine so Tryz.func97 ?_
   repeat' (first|refine wu ?_|exact wkc|intro hc|refine wk2 ?_ ?_|fail)
   exact wkr
 | k+1,d,hk3,hd,a,hw=>by
   have hst:=fun x hx=>stR_sound es (autoE es k) d (by omega) (fun y hy=>autoR_sound' es k (d+1) (by omega) (by omega) y hy) x (a.states.length:Int) hx
   have hwa:=w_auto a
   have hlb:a.states.length≤1000000000:=by have:=w_lenM staT 6 a.states;omega
   have hml:(a.states.map staT).length=a.states.length:=List.length_map _
   have hz:autoE es (k+1) a=autoE es (k+1) a:=rfl
   conv at hz=>rhs;unfold autoE orE
   generalize autoE es (k+1) a=z at hz⊢
   generalize autoE es k=F at*
   unfold autoC
   generalize a.states=l at*
   refine so Tryz.func97 ?_
   repeat' (first|refine wu ?_|exact wkc|intro hc|refine wk2 ?_ ?_|fail)
   all_goals first
    | ((repeat' (first|refine LoopK.ret ?_|refine wk ?_|fail));refine RetK.pure rfl (Le.of_eq ?_) rfl;clear hst;refine congrArg (fun z=>SV.t (T.v (Value.int IntKind.i64 z))) ?_;grind)
    | (exfalso;omega)
    | skip
   have hz2:z=firstE (stE es F (l.length:Int)) l:=by clear hst;grind
   clear hz
   refine TR.loopN l.length (fun k=>firstE (stE es F (l.length:Int)) (l.take k)=0) (fun k=>[(0,.t (ensT es)),(2,.i d),(4,.cp [.sl 6 (l.map staT)] 0),(7,.i k)]) (fun _=>[]) rfl (fun j hlt ha=>?_) (fun ha=>?_)
   ·have hx:=at_sta hlt
    have g1:=firstE_at (f:=stE es F (l.length:Int)) hlt ha
    have g2:=firstE_next (f:=stE es F (l.length:Int)) hlt ha
    have hs:=hst l[j] (by have:=w_inM (f:=staT) (sz:=6) (List.getElem_mem hlt);omega)
    generalize stE es F (l.length:Int) l[j]=xe at*
    generalize l[j]=x at*
    rw[<-hml]at hs
    unfold staC at hx hs
    repeat' (first|refine wu ?_|exact wkc|intro hc|refine wk2 ?_ ?_|refine wv hs ?_|fail)
    all_goals first
     | exact LoopK.nextN hlt (g2 (by clear hs hst;omega))
     | ((repeat' (first|refine LoopK.ret ?_|refine wk ?_|fail));refine RetK.pure rfl (Le.of_eq ?_) rfl;clear hs hst hx;refine congrArg (fun z=>SV.t (T.v (Value.int IntKind.i64 z))) ?_;grind)
   ·have e1:=firstE_all ha
    repeat' (first|refine wu ?_|exact wkc|intro hc|refine wk2 ?_ ?_|fail)
    all_goals((repeat' (first|refine LoopK.ret ?_|refine wk ?_|fail));refine RetK.pure rfl (Le.of_eq ?_) rfl;clear hst;refine congrArg (fun z=>SV.t (T.v (Value.int IntKind.i64 z))) ?_;grind)
theorem autoR_sound(es:List En)(a:Auto)(hw:(autoT a).w≤1000000000):Pure Tryz.prog 97 [.t (ensT es),.t (.ag (autoC a)),.i 0] (.i (autoE es 3 a)):=autoR_sound' es 3 0 (Nat.le_refl _) rfl a hw
theorem headR_sound(es:List En)(n:Nod)(hw:(nodT n).w≤1000000000):Pure Tryz.prog 59 [.t (ensT es),.t (.ag (nodC n))] (.i (headE es n)):=by
 have hwn:=w_nod n
 have m1:(n.ins.map declT).length=n.ins.length:=List.length_map _
 have m2:(n.outs.map declT).length=n.outs.length:=List.length_map _
 have m3:(n.locals.map declT).length=n.locals.length:=List.length_map _
 have m4:(n.eqs.map equT).length=n.eqs.length:=List.length_map _
 have m5:(n.autos.map autoT).length=n.autos.length:=List.length_map _
 have m6:(n.assume.map exT).length=n.assume.length:=List.length_map _
 have m7:(n.ensure.map exT).length=n.ensure.length:=List.length_map _
 have hi:=identR_sound n.name
 have hd1:=declsR_sound es n.ins true (by omega)
 have hd2:=declsR_sound es n.outs true (by omega)
 have hd3:=declsR_sound es n.locals false (by omega)
 have hz:headE es n=headE es n:=rfl
 conv at hz=>rhs;unfold headE orE
 have hq0:identE n.name=(if ident n.name=true then 0 else 6):=rfl
 generalize headE es n=z at hz⊢
 unfold nodC
 refine so Tryz.func59 ?_
 repeat' (first|refine wu ?_|exact wkc|intro hc|refine wk2 ?_ ?_|refine wb hi ?_ ?_|refine wv hd1 ?_|refine wv hd2 ?_|refine wv hd3 ?_|fail)
 all_goals((repeat' (first|refine LoopK.ret ?_|refine wk ?_|fail));refine RetK.pure rfl (Le.of_eq ?_) rfl;clear hi hd1 hd2 hd3;refine congrArg (fun z=>SV.t (T.v (Value.int IntKind.i64 z))) ?_;grind)
theorem tailR_sound(es:List En)(n:Nod)(hw:(nodT n).w≤1000000000):Pure Tryz.prog 61 [.t (ensT es),.t (.ag (nodC n))] (.i (tailE es n)):=by
 have hwn:=w_nod n
 have l2:=w_lenM autoT 1 n.autos
 have l3:=w_lenM exT 6 n.assume
 have l4:=w_lenM exT 6 n.ensure
 have m5:(n.autos.map autoT).length=n.autos.length:=List.length_map _
 have m6:(n.assume.map exT).length=n.assume.length:=List.length_map _
 have m7:(n.ensure.map exT).length=n.ensure.length:=List.length_map _
 have hz:tailE es n=tailE es n:=rfl
 conv at hz=>rhs;unfold tailE orE
 generalize tailE es n=z at hz⊢
 unfold nodC
 refine so Tryz.func61 ?_
 repeat' (first|refine wu ?_|exact wkc|intro hc|refine wk2 ?_ ?_|fail)
 refine TR.loopN n.autos.length (fun k=>firstE (autoE es 3) (n.autos.take k)=0) (fun k=>[(0,.t (ensT es)),(3,.cp [.s n.name,declsT n.ins,declsT n.outs,declsT n.locals,.sl 7 (n.eqs.map equT),.sl 1 (n.autos.map autoT),.sl 6 (n.assume.map exT),.sl 6 (n.ensure.map exT)] 0),(5,.i k)]) (fun _=>[]) rfl (fun k hlt ha=>?_) (fun ha=>?_)
 ·have hx:=at_auto hlt
  have g1:=firstE_at (f:=(autoE es 3)) hlt ha
  have g2:=firstE_next (f:=(autoE es 3)) hlt ha
  have hs:=autoR_sound es n.autos[k] (by have:=w_inM (f:=autoT) (sz:=1) (List.getElem_mem hlt);omega)
  generalize autoE es 3 n.autos[k]=xe at*
  generalize n.autos[k]=u at*
  unfold autoC at hx hs
  repeat' (first|refine wu ?_|exact wkc|intro hc|refine wk2 ?_ ?_|refine wv hs ?_|fail)
  all_goals first
   | exact LoopK.nextN hlt (g2 (by clear hs;omega))
   | ((repeat' (first|refine LoopK.ret ?_|refine wk ?_|fail));refine RetK.pure rfl (Le.of_eq ?_) rfl;clear hs hx;refine congrArg (fun z=>SV.t (T.v (Value.int IntKind.i64 z))) ?_;grind)
 have e5:=firstE_all ha
 refine wk ?_
 repeat' (first|refine wu ?_|exact wkc|intro hc|refine wk2 ?_ ?_|fail)
 refine TR.loopN n.assume.length (fun k=>firstE (exprX es) (n.assume.take k)=0) (fun k=>[(0,.t (ensT es)),(3,.cp [.s n.name,declsT n.ins,declsT n.outs,declsT n.locals,.sl 7 (n.eqs.map equT),.sl 1 (n.autos.map autoT),.sl 6 (n.assume.map exT),.sl 6 (n.ensure.map exT)] 0),(7,.i k)]) (fun _=>[]) rfl (fun k hlt ha=>?_) (fun ha=>?_)
 ·have hx:=at_exT hlt
  have g1:=firstE_at (f:=(exprX es)) hlt ha
  have g2:=firstE_next (f:=(exprX es)) hlt ha
  have hs:=exprR_sound es n.assume[k] (by have:=wEx_le (n.assume[k]);have:=w_inM (f:=exT) (sz:=6) (List.getElem_mem hlt);omega)
  rw[exT_eq]at hs
  generalize exprX es n.assume[k]=xe at*
  generalize n.assume[k]=u at*
  unfold exC at hx hs
  repeat' (first|refine wu ?_|exact wkc|intro hc|refine wk2 ?_ ?_|refine wv hs ?_|fail)
  all_goals first
   | exact LoopK.nextN hlt (g2 (by clear hs;omega))
   | ((repeat' (first|refine LoopK.ret ?_|refine wk ?_|fail));refine RetK.pure rfl (Le.of_eq ?_) rfl;clear hs hx;refine congrArg (fun z=>SV.t (T.v (Value.int IntKind.i64 z))) ?_;grind)
 have e7:=firstE_all ha
 refine wk ?_
 repeat' (first|refine wu ?_|exact wkc|intro hc|refine wk2 ?_ ?_|fail)
 refine TR.loopN n.ensure.length (fun k=>firstE (exprX es) (n.ensure.take k)=0) (fun k=>[(0,.t (ensT es)),(3,.cp [.s n.name,declsT n.ins,declsT n.outs,declsT n.locals,.sl 7 (n.eqs.map equT),.sl 1 (n.autos.map autoT),.sl 6 (n.assume.map exT),.sl 6 (n.ensure.map exT)] 0),(9,.i k)]) (fun _=>[]) rfl (fun k hlt ha=>?_) (fun ha=>?_)
 ·have hx:=at_exT hlt
  have g1:=firstE_at (f:=(exprX es)) hlt ha
  have g2:=firstE_next (f:=(exprX es)) hlt ha
  have hs:=exprR_sound es n.ensure[k] (by have:=wEx_le (n.ensure[k]);have:=w_inM (f:=exT) (sz:=6) (List.getElem_mem hlt);omega)
  rw[exT_eq]at hs
  generalize exprX es n.ensure[k]=xe at*
  generalize n.ensure[k]=u at*
  unfold exC at hx hs
  repeat' (first|refine wu ?_|exact wkc|intro hc|refine wk2 ?_ ?_|refine wv hs ?_|fail)
  all_goals first
   | exact LoopK.nextN hlt (g2 (by clear hs;omega))
   | ((repeat' (first|refine LoopK.ret ?_|refine wk ?_|fail));refine RetK.pure rfl (Le.of_eq ?_) rfl;clear hs hx;refine congrArg (fun z=>SV.t (T.v (Value.int IntKind.i64 z))) ?_;grind)
 have e9:=firstE_all ha
 refine wk ?_
 repeat' (first|refine wu ?_|exact wkc|intro hc|refine wk2 ?_ ?_|fail)
 all_goals((repeat' (first|refine LoopK.ret ?_|refine wk ?_|fail));refine RetK.pure rfl (Le.of_eq ?_) rfl;clear hwn;refine congrArg (fun z=>SV.t (T.v (Value.int IntKind.i64 z))) ?_;grind)
theorem shapeR_sound(p:Prog)(hw:(T.ag (progC p)).w≤1000000000):Pure Tryz.prog 28 [.t (.ag (progC p))] (.tup [.t (.ag [T.i (shapeX p).1.1,T.i (shapeX p).1.2]),.i (shapeX p).2]):=by
 have l1:(T.sl 2 (p.enums.map enT)).w+(nodesT p.nodes).w≤(T.ag (progC p)).w:=by rw[w_ag];simp only[progC,List.map_cons,List.map_nil,List.sum_cons,List.sum_nil];omega
 have m1:(p.enums.map enT).length=p.enums.length:=List.length_map _
 have m2:(p.nodes.map nodT).length=p.nodes.length:=List.length_map _
 have hen:∀u,u∈p.enums->Pure Tryz.prog 58 [.t (.ag [.s u.name,.sl 1 (u.tags.map T.s)])] (.i (enumE u)):=fun u hu=>enumR_sound u (by
  have:=w_inM (f:=enT) (sz:=2) hu
  rw[enT,w_ag]at this;simp only[List.map_cons,List.map_nil,List.sum_cons,List.sum_nil]at this
  have:=w_lenM T.s 1 u.tags
  omega)
 have hnw:∀u,u∈p.nodes->(nodT u).w≤1000000000:=fun u hu=>by
  have:=w_inM (f:=nodT) (sz:=8) hu
  have:(nodesT p.nodes).w=(T.sl 8 (p.nodes.map nodT)).w:=rfl
  omega
 have hz:shapeX p=shapeX p:=rfl
 conv at hz=>rhs;unfold shapeX limE
 generalize shapeX p=z at hz⊢
 unfold progC
 refine so Tryz.func28 ?_
 repeat' (first|refine wu ?_|exact wkc|intro hc|refine wk2 ?_ ?_|fail)
 all_goals first
  | (have hzz:z=((-1,-1),3):=by rw[hz];clear hen hnw;grind
     subst hzz
     exact wkr)
  | skip
 rw[if_neg (by clear hen hnw hz;simp;omega)]at hz
 refine TR.loopN p.enums.length (fun k=>firstE enumE (p.enums.take k)=0) (fun k=>[(1,.cp [.sl 2 (p.enums.map enT),nodesT p.nodes] 0),(2,.ref 0 0),(4,.ref 1 0),(5,.i k)])
  (fun k=>[.cells [.i 0,.i 0],.cells [.i (-1),.i (-1)]]) rfl (fun k hlt ha=>?_) (fun ha=>?_)
 ·have hx:(p.enums.map enT)[k]?=some (.ag [.s p.enums[k].name,.sl 1 (p.enums[k].tags.map T.s)]):=at_map enT hlt
  have g1:=firstE_at (f:=enumE) hlt ha
  have g2:=firstE_next (f:=enumE) hlt ha
  have hs:=hen _ (List.getElem_mem hlt)
  generalize enumE p.enums[k]=xe at*
  generalize p.enums[k]=u at*
  clear hen hnw
  repeat' (first|refine wu ?_|exact wkc|intro hc|refine wk2 ?_ ?_|refine wv hs ?_|fail)
  ·rw[if_pos (by rw[g1 hc];exact hc),g1 hc]at hz
   subst hz
   repeat' (first|refine LoopK.ret ?_|refine wk ?_|fail)
   exact wkr
  ·exact LoopK.nextN hlt (g2 (by clear hs;omega))
 have e1:=firstE_all ha
 rw[if_neg (by simp[e1])]at hz
 clear hen
 refine wk ?_
 repeat' (first|refine wu ?_|exact wkc|intro hc|refine wk2 ?_ ?_|fail)
 refine TR.loopN p.nodes.length (fun k=>firstE (fun n=>(nodeX p.enums n).2) (p.nodes.take k)=0) (fun k=>[(1,.cp [.sl 2 (p.enums.map enT),nodesT p.nodes] 0),(2,.ref 0 0),(7,.i k)])
  (fun k=>[.cells [.i 0,.i 0],.cells [.i (-1),.i (-1)]]) rfl (fun k hlt ha=>?_) (fun ha=>?_)
 ·have hx:=at_nod hlt
  have g1:=firstE_at (f:=fun n=>(nodeX p.enums n).2) hlt ha
  have g2:=firstE_next (f:=fun n=>(nodeX p.enums n).2) hlt ha
  have g3:=firstI_at (f:=fun n=>(nodeX p.enums n).2) hlt ha
  have hnk:=hnw _ (List.getElem_mem hlt)
  have hh:=headR_sound p.enums p.nodes[k] hnk
  have ht:=tailR_sound p.enums p.nodes[k] hnk
  have hq:∀u∈p.nodes[k].eqs,Pure Tryz.prog 60 [.t (ensT p.enums),.t (.ag (equC u))] (.i (equE p.enums u)):=fun u hu=>equR_sound p.enums u (by have:=w_nod p.nodes[k];have:=w_inM (f:=equT) (sz:=7) hu;omega)
  have hat:p.nodes[k]?=some p.nodes[k]:=List.getElem?_eq_getElem hlt
  have hlq:p.nodes[k].eqs.length≤1000000000:=by have:=w_nod p.nodes[k];have:=w_lenM equT 7 p.nodes[k].eqs;omega
  generalize p.nodes[k]=u at*
  have mq:(u.eqs.map equT).length=u.eqs.length:=List.length_map _
  have hbad:∀(a b:Int),b≠0->nodeX p.enums u=(a,b)->z=(((k:Int),a),b):=fun a b hb he=>by
   rw[he]at g1 g3
   rw[if_neg (by rw[g1 hb];exact hb),g3 hb,g1 hb]at hz
   simp only[Int.toNat_natCast,hat,Option.map_some,Option.getD_some,he]at hz
   exact hz
  clear hnw hz
  have hx0:nodeX p.enums u=if headE p.enums u≠0 then(-1,headE p.enums u) else if firstE (equE p.enums) u.eqs≠0 then firstI (equE p.enums) u.eqs else(-1,tailE p.enums u):=rfl
  generalize nodeX p.enums u=nx at*
  generalize headE p.enums u=he at*
  generalize tailE p.enums u=te at*
  unfold nodC at hx hh ht
  repeat' (first|refine wu ?_|exact wkc|intro hc|refine wk2 ?_ ?_|refine wv hh ?_|fail)
  ·rw[if_pos hc]at hx0
   have hzz:=hbad _ _ hc hx0
   subst hzz
   repeat' (first|refine LoopK.ret ?_|refine wk ?_|fail)
   exact wkr
  rw[if_neg hc]at hx0
  refine TR.loopN u.eqs.length (fun j=>firstE (equE p.enums) (u.eqs.take j)=0) (fun j=>[(1,.cp [.sl 2 (p.enums.map enT),nodesT p.nodes] 0),(2,.ref 0 0),(7,.i k),(8,.cp [.s u.name,declsT u.ins,declsT u.outs,declsT u.locals,.sl 7 (u.eqs.map equT),.sl 1 (u.autos.map autoT),.sl 6 (u.assume.map exT),.sl 6 (u.ensure.map exT)] 0),(10,.i j)])
   (fun _=>[.cells [.i 0,.i 0],.cells [.i (-1),.i (-1)]]) rfl (fun j hlt2 ha2=>?_) (fun ha2=>?_)
  ·have hx2:=at_equ hlt2
   have f1:=firstE_at (f:=equE p.enums) hlt2 ha2
   have f2:=firstE_next (f:=equE p.enums) hlt2 ha2
   have f3:=firstI_at (f:=equE p.enums) hlt2 ha2
   have hs:=hq _ (List.getElem_mem hlt2)
   generalize equE p.enums u.eqs[j]=xe at*
   generalize u.eqs[j]=v at*
   unfold equC at hx2 hs
   repeat' (first|refine wu ?_|exact wkc|intro hc|refine wk2 ?_ ?_|refine wv hs ?_|fail)
   ·rw[if_pos (by rw[f1 hc];exact hc),f3 hc]at hx0
    have hzz:=hbad _ _ hc hx0
    subst hzz
    repeat' (first|refine LoopK.ret ?_|refine wk ?_|fail)
    exact wkr
   ·exact LoopK.nextN hlt2 (f2 (by clear hs;omega))
  have e2:=firstE_all ha2
  rw[if_neg (by simp[e2])]at hx0
  refine wk ?_
  repeat' (first|refine wu ?_|exact wkc|intro hc|refine wk2 ?_ ?_|refine wv ht ?_|fail)
  ·have hzz:=hbad _ _ hc hx0
   subst hzz
   repeat' (first|refine LoopK.ret ?_|refine wk ?_|fail)
   exact wkr
  ·exact LoopK.nextN hlt (g2 (by rw[hx0];show te=0;clear hh ht hq;omega))
 have e2:=firstE_all ha
 rw[if_pos e2]at hz
 subst hz
 refine wk ?_
 repeat' (first|refine wu ?_|exact wkc|intro hc|refine wk2 ?_ ?_|fail)
 exact wkr
end Go.Proofs.YtjgmcnemcembmaaGreatDoor
