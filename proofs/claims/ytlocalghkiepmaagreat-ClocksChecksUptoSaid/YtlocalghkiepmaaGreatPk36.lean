import Derived.Test.YtlocalghkiepmaaGreatPk13
import Derived.Test.YtlocalghkiepmaaGreatPk19
import Derived.Test.YtlocalghkiepmaaGreatPk24
import Derived.Test.YtlocalghkiepmaaGreatPk26
import Derived.Test.YtlocalghkiepmaaGreatPk30
import Derived.Test.YtlocalghkiepmaaGreatPk32
import Derived.Test.YtlocalghkiepmaaGreatPk35
set_option linter.unusedSimpArgs false
set_option linter.unusedVariables false
namespace Go.Proofs.YtlocalghkiepmaaGreat
open Go Go.TL
attribute [local irreducible] TR TO Then InBlock RetK Sound LoopK Kf GG ThenL
attribute [local irreducible] WeakK
def declF10(tags:List Str)(vis:List Str)(d:Decl):List Str×Int:=(vis++[d.name],if d.name∈vis\/d.name∈tags then 7 else 0)
def declR(vis tags:List Str)(l:List Decl):List Str×Int:=
 if(foldS (declF10 tags) vis l).2≠0 then([],(foldS (declF10 tags) vis l).2) else
 if samplE (foldS (declF10 tags) vis l).1 l≠0 then([],samplE (foldS (declF10 tags) vis l).1 l) else((foldS (declF10 tags) vis l).1,0)
def leftF10(s:Plr)(df:List Str)(x:Str):List Str×Int:=(df++[x],if x ∉ s.vis then 6 else if x∈s.inputs\/x∈df then 7 else 0)
def equR(s:Plr)(df:List Str)(u:Equ):List Str×Int:=
 if(foldS (leftF10 s) df u.left).2≠0 then([],(foldS (leftF10 s) df u.left).2) else((foldS (leftF10 s) df u.left).1,exprRf s u.left.length u.right)
theorem foldS_len{α β:Type}{F:List β->α->List β×Int}(h:∀d x,(F d x).1.length=d.length+1):∀(l:List α) (d:List β),(foldS F d l).1.length≤d.length+l.length
 | [],d=>by simp[foldS]
 | x::l,d=>by
   rw[foldS]
   have h1:=h d x
   split
   ·have:=foldS_len h l (F d x).1
    simp only[List.length_cons];omega
   ·simp only[List.length_cons];omega
theorem cond10_sound(s:Plr)(hs:PlrOk s)(l:List Tran)(hl:l.length≤1000000000)(hw:∀t∈l,wEx t.cond≤1000000000/\∀x∈flat t.cond,ExOk x):
  Pure Tryz.prog 216 [.t (.ag (plrC s)),.t (.sl 8 (l.map tranT))] (.i (firstE (fun t:Tran=>exprRf s 1 t.cond) l)):=by
 have hml:(l.map tranT).length=l.length:=List.length_map _
 have he:=fun(t:Tran) (ht:t∈l)=>expr10_sound s hs _ t.cond (Nat.le_refl _) (hw t ht).1 (hw t ht).2 1
 unfold plrC at*
 refine Sound.of tabOk Tryz.func216 (by kernel_rfl) rfl rfl ?_
 repeat' (first|refine wkt ?_|refine wk ?_|exact wkc|intro hc|refine wk2 ?_ ?_|fail)
 refine TR.loopN l.length (fun k=>firstE (fun t:Tran=>exprRf s 1 t.cond) (l.take k)=0) (fun k=>[(1,.t (.sl 8 (l.map tranT))),(2,.cp [.sl 2 (s.p.enums.map enT),nodesT s.p.nodes,T.i s.node,strsT s.vis,strsT s.inputs,strsT s.tags] 0),(5,.i k)]) (fun _=>[]) rfl (fun k hlt hk=>?_) (fun hk=>?_)
 ·have hx:=at_map tranT hlt
  have hi:=he _ (List.getElem_mem hlt)
  have htk:=firstE_take hlt hk
  have hat:=firstE_at hlt hk
  generalize l[k]=t at*
  generalize exprRf s 1 t.cond=r at*
  unfold tranT at hx
  unfold exC at hi
  repeat' (first|refine wkt ?_|refine wka ?_|refine rg [.t (.ag [.sl 2 (s.p.enums.map enT),nodesT s.p.nodes,T.i s.node,strsT s.vis,strsT s.inputs,strsT s.tags]),.t (.sl 8 (l.map tranT)),.i k,.cp [T.n t.cond.kind,T.n t.cond.op,T.n t.cond.t,T.n t.cond.v,.s t.cond.name,.sl 6 (t.cond.args.map exT),T.n t.to,.b t.resume] 0,.cp [T.n t.cond.kind,T.n t.cond.op,T.n t.cond.t,T.n t.cond.v,.s t.cond.name,.sl 6 (t.cond.args.map exT),T.n t.to,.b t.resume] 0,.t (.ag [T.n t.cond.kind,T.n t.cond.op,T.n t.cond.t,T.n t.cond.v,.s t.cond.name,.sl 6 (t.cond.args.map exT)]),.i r,.i r] ?_ ?_|refine wv hi ?_|exact trivial|exact And.intro rfl rfl|refine And.intro (fun H env=>?_) ?_|refine wk ?_|exact wkc|intro hc|refine wk2 ?_ ?_|fail)
  ·rw[hat hc];exact wkr
  ·exact LoopK.nextN hlt (by rw[htk];exact Decidable.not_not.1 hc)
 ·rw[List.take_length]at hk
  rw[hk]
  repeat' (first|refine wkt ?_|refine wk ?_|exact wkc|intro hc|refine wk2 ?_ ?_|fail)
  exact wkr
theorem equ10_sound(s:Plr)(hs:PlrOk s)(hin:s.inputs.length≤2000000000)(df:List Str)(u:Equ)(hu:u.left.length+df.length≤2000000000)(hw:wEx u.right≤1000000000)(hex:∀x∈flat u.right,ExOk x):
  Pure Tryz.prog 137 [.t (.ag (plrC s)),.t (equT u),.t (strsT df)] (.tup [.t (strsT (equR s df u).1),.i (equR s df u).2]):=by
 have hml:(u.left.map T.s).length=u.left.length:=List.length_map _
 have he:=expr10_sound s hs _ u.right (Nat.le_refl _) hw hex u.left.length
 have hv:=fun x=>has6_sound s.vis x hs.vis
 have hi:=fun x=>has6_sound s.inputs x hin
 have hequ:equT u= .ag (.sl 1 (u.left.map T.s)::exC u.right):=rfl
 have f1:∀d x,leftF10 s d x=(d++[x],if x ∉ s.vis then 6 else if x∈s.inputs\/x∈d then 7 else 0):=fun _ _=>rfl
 unfold equR
 rw[hequ]
 generalize leftF10 s=F at*
 unfold plrC exC at*
 refine Sound.of tabOk Tryz.func137 (by kernel_rfl) rfl rfl ?_
 repeat' (first|refine wkt ?_|refine wk ?_|exact wkc|intro hc|refine wk2 ?_ ?_|fail)
 refine TR.loopN u.left.length (fun k=>(foldS F df (u.left.take k)).2=0) (fun k=>[(2,.t (strsT (foldS F df (u.left.take k)).1)),(3,.cp [.sl 2 (s.p.enums.map enT),nodesT s.p.nodes,T.i s.node,strsT s.vis,strsT s.inputs,strsT s.tags] 0),(4,.cp [.sl 1 (u.left.map T.s),T.n u.right.kind,T.n u.right.op,T.n u.right.t,T.n u.right.v,.s u.right.name,.sl 6 (u.right.args.map exT)] 0),(8,.i k)]) (fun _=>[]) rfl (fun k hlt hk=>?_) (fun hk=>?_)
 ·refine TR.weak ?_
  have hx:=at_strs hlt
  have hn:=foldS_next hlt hk
  have hat:=foldS_at hlt hk
  have hlen:(foldS F df (u.left.take k)).1.length≤df.length+k:=by
   have:=foldS_len (F:=F) (fun d x=>by rw[f1];simp) (u.left.take k) df
   rw[List.length_take]at this;omega
  have hd:=fun x=>has6_sound (foldS F df (u.left.take k)).1 x (by omega)
  generalize foldS F df (u.left.take k)=d at*
  obtain⟨d1,d2⟩:=d
  simp only at hk hn hat hlen hd
  subst hk
  generalize u.left[k]=x at*
  have hv:=hv x
  have hi:=hi x
  have hd:=hd x
  rw[f1]at hn hat
  have hdl:(d1.map T.s).length=d1.length:=List.length_map _
  have hcat:(d1++[x]).map T.s=[]++d1.map T.s++[T.s x]:=by simp
  have e6:decide (x∈s.vis)=false->(if(foldS F df u.left).2≠0 then([],(foldS F df u.left).2) else((foldS F df u.left).1,exprRf s u.left.length u.right))=([],6):=fun c=>by
   have c:=of_decide_eq_false c
   rw[if_pos c]at hat
   rw[hat (show(6:Int)≠0 by decide)];rfl
  have e7:decide (x∈s.vis)=true->(x∈s.inputs\/x∈d1)->(if(foldS F df u.left).2≠0 then([],(foldS F df u.left).2) else((foldS F df u.left).1,exprRf s u.left.length u.right))=([],7):=fun c c2=>by
   have c:=of_decide_eq_true c
   rw[if_neg (by simpa using c),if_pos c2]at hat
   rw[hat (show(7:Int)≠0 by decide)];rfl
  generalize (if(foldS F df u.left).2≠0 then([],(foldS F df u.left).2) else((foldS F df u.left).1,exprRf s u.left.length u.right))=R at*
  generalize u.left.length=N at*
  repeat' (first|refine wkt ?_|refine wka ?_|refine wbf hv ?_ ?_|refine wbf hi ?_ ?_|refine wk ?_|refine WeakK.ret ?_|refine wbf hd ?_ (Hold.p ?_)|exact wkc|intro hc|refine wk2 ?_ ?_|fail)
  all_goals try(refine Hold.mk (fun hc=>?_))
  rotate_left 2
  repeat' (first|(apply TO.build0 tabOk;exact rfl;exact rfl;exact rfl;exact rfl;exact rfl)|(apply TO.append0 tabOk;exact rfl;exact rfl;exact rfl;exact rfl;exact rfl;exact rfl;exact rfl;exact rfl;exact rfl;exact rfl;exact rfl;exact rfl;exact rfl;(first|omega|(simp only[List.length_map];omega));exact rfl)|refine Go.TL.TR.region ?_|(apply Go.TL.TO.go tabOk 1 true;exact rfl;(first|apply Go.TL.GG.to|apply Go.TL.GG.stop|apply Go.TL.GG.tr0|apply Go.TL.GG.tr|apply Go.TL.GG.ex))|(apply Go.TL.TR.go0 tabOk 1 true;exact rfl;(first|apply Go.TL.GG.to|apply Go.TL.GG.stop|apply Go.TL.GG.tr0|apply Go.TL.GG.tr|apply Go.TL.GG.ex))|(apply Go.TL.TR.go tabOk 1 true;exact rfl;(first|apply Go.TL.GG.to|apply Go.TL.GG.stop|apply Go.TL.GG.tr0|apply Go.TL.GG.tr|apply Go.TL.GG.ex))|(apply Go.TL.TExit.go tabOk 1 true;exact rfl;(first|apply Go.TL.GG.to|apply Go.TL.GG.stop|apply Go.TL.GG.tr0|apply Go.TL.GG.tr|apply Go.TL.GG.ex))|fail)
  repeat' (first|refine wkt ?_|refine wk ?_|fail)
  ·rename_i c1 c2
   rw[if_neg (by simpa using of_decide_eq_true c1),if_neg (by simpa using And.intro (of_decide_eq_false c2) (of_decide_eq_false hc))]at hn
   refine WeakK.own 2 rfl ?_
   refine LoopK.nextC 0 hlt (by rw[hn]) rfl rfl rfl rfl rfl ?_
   (try dsimp only)
   rw[hn]
   rw[show strsT (d1++[x],(0:Int)).1=T.sl 1 (d1.map T.s++[T.s x]) from by simp[strsT]]
   exact⟨rfl,rfl,rfl,rfl,trivial⟩
  ·rw[e6 hc];exact wkr
  ·rename_i c1
   rw[e7 c1 (.inl (of_decide_eq_true hc))];exact wkr
  ·rename_i c1 c2
   rw[e7 c1 (.inr (of_decide_eq_true hc))];exact wkr
 ·rw[List.take_length]at hk⊢
  rw[if_neg (by simp[hk])]
  generalize exprRf s u.left.length u.right=r at*
  rw[<-hml]at he
  repeat' (first|refine wkt ?_|refine wka ?_|refine wv he ?_|refine wk ?_|exact wkc|intro hc|refine wk2 ?_ ?_|fail)
  exact wkr
theorem decl10_sound(vis tags:List Str)(l:List Decl)(hl:l.length+vis.length≤1000000000)(hck:∀d∈l,d.clock.length≤1000000000)(ht:tags.length≤2000000000):
  Pure Tryz.prog 135 [.t (strsT vis),.t (strsT tags),.t (declsT l)] (.tup [.t (strsT (declR vis tags l).1),.i (declR vis tags l).2]):=by
 have hml:(l.map declT).length=l.length:=List.length_map _
 have htg:=fun x=>has6_sound tags x ht
 have f1:∀d x,declF10 tags d x=(d++[x.name],if x.name∈d\/x.name∈tags then 7 else 0):=fun _ _=>rfl
 unfold declR
 generalize declF10 tags=F at*
 refine Sound.of tabOk Tryz.func135 (by kernel_rfl) rfl rfl ?_
 repeat' (first|refine wkt ?_|refine wk ?_|exact wkc|intro hc|refine wk2 ?_ ?_|fail)
 refine TR.loopN l.length (fun k=>(foldS F vis (l.take k)).2=0) (fun k=>[(0,.t (strsT (foldS F vis (l.take k)).1)),(1,.t (strsT tags)),(2,.t (declsT l)),(8,.i k)]) (fun _=>[]) rfl (fun k hlt hk=>?_) (fun hk=>?_)
 ·refine TR.weak ?_
  have hx:=at_map declT hlt
  have hn:=foldS_next hlt hk
  have hat:=foldS_at hlt hk
  have hlen:(foldS F vis (l.take k)).1.length≤vis.length+k:=by
   have:=foldS_len (F:=F) (fun d x=>by rw[f1];simp) (l.take k) vis
   rw[List.length_take]at this;omega
  have hd:=fun x=>has6_sound (foldS F vis (l.take k)).1 x (by omega)
  generalize foldS F vis (l.take k)=v at*
  obtain⟨v1,v2⟩:=v
  simp only at hk hn hat hlen hd
  subst hk
  generalize l[k]=x at*
  have hd:=hd x.name
  have htg:=htg x.name
  rw[f1]at hn hat
  have hdl:(v1.map T.s).length=v1.length:=List.length_map _
  have e7:(x.name∈v1\/x.name∈tags)->(if(foldS F vis l).2≠0 then(([]:List Str),(foldS F vis l).2) else if samplE (foldS F vis l).1 l≠0 then([],samplE (foldS F vis l).1 l) else((foldS F vis l).1,0))=([],7):=fun c2=>by
   rw[if_pos c2]at hat
   rw[hat (show(7:Int)≠0 by decide)];rfl
  generalize (if(foldS F vis l).2≠0 then(([]:List Str),(foldS F vis l).2) else if samplE (foldS F vis l).1 l≠0 then([],samplE (foldS F vis l).1 l) else((foldS F vis l).1,0))=R at*
  have hdx:declT x= .ag [.s x.name,T.n x.ty,.sl 3 (x.clock.map onT)]:=rfl
  rw[hdx]at hx
  repeat' (first|(apply TO.build0 tabOk;exact rfl;exact rfl;exact rfl;exact rfl;exact rfl)|refine wkt ?_|refine wka ?_|refine wbf hd ?_ ?_|refine wbf htg ?_ ?_|refine Go.TL.TR.regionW [0] (envF:=_) (HF:=[.tail ((v1.map T.s).length+1)]) [(.sl 1 [] 0,true),(.t (strsT v1),false),(.sl 1 (v1.map T.s) 0,true),(.t (declsT l),false),(.i k,false),(.cp [.s x.name,T.n x.ty,.sl 3 (x.clock.map onT)] 0,false),(.cp [.s x.name,T.n x.ty,.sl 3 (x.clock.map onT)] 0,false),(.t (.s x.name),false),(.t (.sl 1 [.s x.name]),false),(.sl 1 (v1.map T.s++[.s x.name]) 0,true),(.sl 1 (v1.map T.s++[.s x.name]) 0,false)] [[],[.tail 0],[.tail (v1.map T.s).length],[.tail ((v1.map T.s).length+1)]] hmix rfl (by dsimp only[List.map];decide +kernel) rfl ?_ rfl rfl ?_|(apply TO.append0 tabOk;exact rfl;exact rfl;exact rfl;exact rfl;exact rfl;exact rfl;exact rfl;exact rfl;exact rfl;exact rfl;exact rfl;exact rfl;exact rfl;(first|omega|(simp only[List.length_map];omega));exact rfl)|exact trivial|exact And.intro rfl rfl|refine And.intro (fun H env=>?_) ?_|refine And.intro (fun env=>?_) ?_|refine wk ?_|refine WeakK.ret ?_|exact wkc|intro hc|refine wk2 ?_ ?_|fail)
  ·rw[e7 (.inl (of_decide_eq_true hc))];exact wkr
  ·rw[e7 (.inr (of_decide_eq_true hc))];exact wkr
  ·rename_i c1
   rw[if_neg (by rintro(h|h) <;> first|exact absurd h (of_decide_eq_false c1)|exact absurd h (of_decide_eq_false hc))]at hn
   refine WeakK.own 0 rfl ?_
   refine LoopK.nextC 0 hlt (by rw[hn]) rfl rfl rfl rfl rfl ?_
   (try dsimp only)
   rw[hn]
   rw[show strsT (v1++[x.name],(0:Int)).1=T.sl 1 (v1.map T.s++[T.s x.name]) from by simp[strsT]]
   exact⟨rfl,rfl,rfl,rfl,trivial⟩
 ·rw[List.take_length]at hk⊢
  have hlen:(foldS F vis l).1.length≤vis.length+l.length:=foldS_len (F:=F) (fun d x=>by rw[f1];simp) l vis
  have hd:=fun x=>has6_sound (foldS F vis l).1 x (by omega)
  generalize foldS F vis l=v at*
  obtain⟨V,v2⟩:=v
  simp only at hk hlen hd
  subst hk
  rw[if_neg (by simp)]
  simp only[]
  repeat' (first|refine wkt ?_|refine wk ?_|exact wkc|intro hc|refine wk2 ?_ ?_|fail)
  refine TR.loopN l.length (fun j=>samplE V (l.take j)=0) (fun j=>[(0,.t (strsT V)),(2,.t (declsT l)),(9,.i j)]) (fun _=>[]) rfl (fun j hlj hj=>?_) (fun hj=>?_)
  ·have hx:=at_map declT hlj
   have htk:=firstE_take (g:=fun d:Decl=>firstE (fun o:OnC=>if o.name∈V then(0:Int) else 6) d.clock) hlj hj
   have hat:=firstE_at (f:=fun d:Decl=>firstE (fun o:OnC=>if o.name∈V then(0:Int) else 6) d.clock) hlj hj
   have hcl:=hck _ (List.getElem_mem hlj)
   generalize l[j]=x at*
   have hdx:declT x= .ag [.s x.name,T.n x.ty,.sl 3 (x.clock.map onT)]:=rfl
   have hmo:(x.clock.map onT).length=x.clock.length:=List.length_map _
   rw[hdx]at hx
   repeat' (first|refine wkt ?_|refine wk ?_|exact wkc|intro hc|refine wk2 ?_ ?_|fail)
   refine TR.loopN x.clock.length (fun k=>firstE (fun o:OnC=>if o.name∈V then(0:Int) else 6) (x.clock.take k)=0) (fun k=>[(0,.t (strsT V)),(2,.t (declsT l)),(9,.i j),(10,.i k)]) (fun _=>[]) rfl (fun k hlk hk=>?_) (fun hk=>?_)
   ·have hy:=at_map onT hlk
    have htk2:=firstE_take hlk hk
    have hat2:=firstE_at hlk hk
    generalize x.clock[k]=o at*
    have ho:onT o= .ag [.s o.name,T.n o.t,T.n o.tag]:=rfl
    rw[ho]at hy
    have hd:=hd o.name
    repeat' (first|refine wkt ?_|refine wka ?_|refine wbf hd ?_ ?_|refine wk ?_|exact wkc|intro hc|refine wk2 ?_ ?_|fail)
    ·have hc:=of_decide_eq_true hc
     rw[if_pos hc]at htk2
     exact LoopK.nextN hlk htk2
    ·have hc:=of_decide_eq_false hc
     rw[if_neg hc]at hat2
     have h6:=hat2 (by decide)
     rw[h6]at hat
     have h7:samplE V l=6:=hat (by decide)
     rw[h7]
     exact wkr
   ·rw[List.take_length]at hk
    repeat' (first|refine wkt ?_|refine wk ?_|exact wkc|intro hc|refine wk2 ?_ ?_|fail)
    exact LoopK.nextN hlj (by unfold samplE;rw[htk];exact hk)
  ·rw[List.take_length]at hj
   rw[hj]
   repeat' (first|refine wkt ?_|refine wk ?_|exact wkc|intro hc|refine wk2 ?_ ?_|fail)
   exact wkr
def Plr.at(s:Plr)(vis:List Str):Plr:=⟨s.p,s.node,vis,s.inputs,s.tags⟩
def wo(l o:List Str):List Str:=l.filter fun s=>!decide (s∈o)
def autF(F:Plr->List Str->Auto->List Str×Int)(s:Plr)(all:List Str)(a:Auto):List Str×Int:=(all++(F s all a).1,(F s all a).2)
def condR(s:Plr)(l:List Tran):Int:=firstE (fun t:Tran=>exprRf s 1 t.cond) l
def stR(F:Plr->List Str->Auto->List Str×Int)(s:Plr)(x:Sta)(df:List Str):List Str×Int:=
 if(declR s.vis s.tags x.locals).2≠0 then([],(declR s.vis s.tags x.locals).2) else
 if(foldS (equR (s.at (declR s.vis s.tags x.locals).1)) df x.eqs).2≠0 then([],(foldS (equR (s.at (declR s.vis s.tags x.locals).1)) df x.eqs).2) else
 if(foldS (autF F (s.at (declR s.vis s.tags x.locals).1)) (foldS (equR (s.at (declR s.vis s.tags x.locals).1)) df x.eqs).1 x.autos).2≠0 then([],(foldS (autF F (s.at (declR s.vis s.tags x.locals).1)) (foldS (equR (s.at (declR s.vis s.tags x.locals).1)) df x.eqs).1 x.autos).2) else
 if condR s x.unl≠0 then([],condR s x.unl) else
 if condR (s.at (declR s.vis s.tags x.locals).1) x.unt≠0 then([],condR (s.at (declR s.vis s.tags x.locals).1) x.unt) else
 if wo (x.locals.map Decl.name) (wo (foldS (autF F (s.at (declR s.vis s.tags x.locals).1)) (foldS (equR (s.at (declR s.vis s.tags x.locals).1)) df x.eqs).1 x.autos).1 df)≠ [] then([],8) else
 (wo (wo (foldS (autF F (s.at (declR s.vis s.tags x.locals).1)) (foldS (equR (s.at (declR s.vis s.tags x.locals).1)) df x.eqs).1 x.autos).1 df) (x.locals.map Decl.name),0)
theorem foldS_sum{α β:Type}{f:List β->α->List β×Int}{m:α->Nat}(l:List α)(h:∀a x,x∈l->(f a x).2=0->(f a x).1.length≤a.length+m x):∀a,(foldS f a l).2=0->(foldS f a l).1.length≤a.length+(l.map m).sum:=by
 induction l with
 | nil=>intro a _;simp[foldS]
 | cons x l ih=>
   intro a hz
   rw[foldS]at hz⊢
   split at hz
   ·rename_i h0
    rw[if_pos h0]
    have h1:=h a x (by simp) h0
    have h2:=ih (fun a y hy=>h a y (by simp[hy])) _ hz
    simp only[List.map_cons,List.sum_cons];omega
   ·rename_i h0;exact absurd hz h0
theorem equR_len(s:Plr)(df:List Str)(u:Equ):(equR s df u).1.length≤df.length+u.left.length:=by
 unfold equR
 split
 ·simp
 ·exact foldS_len (F:=leftF10 s) (fun d x=>by simp[leftF10]) u.left df
theorem declR_len(vis tags:List Str)(l:List Decl):(declR vis tags l).1.length≤vis.length+l.length:=by
 unfold declR
 split
 ·simp
 ·split
  ·simp
  ·exact foldS_len (F:=declF10 tags) (fun d x=>by simp[declF10]) l vis
theorem sum_tk_le{α:Type}(m:α->Nat)(l:List α)(k:Nat):((l.take k).map m).sum≤(l.map m).sum:=by
 conv=>rhs;rw[<-List.take_append_drop k l]
 rw[List.map_append,List.sum_append];omega
theorem sum_le_w{α:Type}{m:α->Nat}{f:α->T}(sz:Nat)(l:List α)(h:∀x∈l,m x≤(f x).w):(l.map m).sum≤(T.sl sz (l.map f)).w:=by
 rw[w_sl]
 induction l with
 | nil=>simp
 | cons x l ih=>
   have h1:=h x (by simp)
   have h2:=ih fun y hy=>h y (by simp[hy])
   simp only[List.map_cons,List.sum_cons];omega
theorem wo_len(l o:List Str):(wo l o).length≤l.length:=List.length_filter_le _ _
set_option maxHeartbeats 4000000 in
theorem st10_sound (F:Plr->List Str->Auto->List Str×Int) (s:Plr) (hs:PlrOk s) (hin:s.inputs.length≤2000000000) (htg:s.tags.length≤2000000000) (x:Sta) (df:List Str) (hvw:s.vis.length+(staT x).w≤1000000000) (hdw:df.length+(staT x).w≤1000000000)
  (heq:∀u∈x.eqs,∀y∈flat u.right,ExOk y) (hu:∀t∈x.unl,∀y∈flat t.cond,ExOk y) (ht:∀t∈x.unt,∀y∈flat t.cond,ExOk y)
  (hF:∀vis,vis.length≤s.vis.length+x.locals.length->∀a∈x.autos,∀all,all.length+(autoT a).w≤1000000000->Pure Tryz.prog 138 [.t (.ag (plrC (s.at vis))),.t (autoT a),.t (strsT all)] (.tup [.t (strsT (F (s.at vis) all a).1),.i (F (s.at vis) all a).2]))
  (hFl:∀s a all,(F s all a).1.length≤(autoT a).w):
  Pure Tryz.prog 181 [.t (.ag (plrC s)),.t (staT x),.t (strsT df)] (.tup [.t (strsT (stR F s x df).1),.i (stR F s x df).2]):=by
 have hws:=w_sta x
 have b1:=w_lenM declT 3 x.locals
 have b2:=w_lenM equT 7 x.eqs
 have b3:=w_lenM autoT 1 x.autos
 have b4:=w_lenM tranT 8 x.unl
 have b5:=w_lenM tranT 8 x.unt
 have hdl:(declsT x.locals).w=(T.sl 3 (x.locals.map declT)).w:=rfl
 have m1:(x.locals.map declT).length=x.locals.length:=List.length_map _
 have m2:(x.eqs.map equT).length=x.eqs.length:=List.length_map _
 have m3:(x.autos.map autoT).length=x.autos.length:=List.length_map _
 have hdecl:=decl10_sound s.vis s.tags x.locals (by omega) (fun d hd=>by
  have h1:=w_inM (f:=declT) (sz:=3) hd
  have h2:=w_lenM onT 3 d.clock
  have h3:(T.sl 3 (d.clock.map onT)).w≤(declT d).w:=by
   rw[show declT d= .ag [.s d.name,T.n d.ty,.sl 3 (d.clock.map onT)] from rfl,w_ag];simp only[List.map_cons,List.map_nil,List.sum_cons,List.sum_nil];omega
  omega) htg
 have hexw:∀e:Ex,(exT e).w≤1000000000->wEx e≤1000000000:=fun e h=>Nat.le_trans (wEx_le e) h
 have hVl:=declR_len s.vis s.tags x.locals
 have hnm:=names10_sound x.locals (by omega)
 have hc1:=cond10_sound s hs x.unl (by omega) (fun t h=>⟨hexw _ (by have:=w_inM (f:=tranT) (sz:=8) h;have:=tran_ex_w t;omega),hu t h⟩)
 have hst:stR F s x df=stR F s x df:=rfl
 conv at hst=>rhs;unfold stR
 have hc1':firstE (fun t:Tran=>exprRf s 1 t.cond) x.unl=condR s x.unl:=rfl
 rw[hc1']at hc1
 generalize stR F s x df=R at hst⊢
 generalize condR s x.unl=q1 at*
 generalize hr1:declR s.vis s.tags x.locals=r1 at*
 obtain⟨V,c⟩:=r1
 simp only at hdecl hVl hst
 have hs':PlrOk (s.at V):=⟨hs.nodes,hs.each,hs.node,by show V.length≤_;omega⟩
 have hequ:=fun(u:Equ) (hu:u∈x.eqs) (d:List Str) (hd:u.left.length+d.length≤2000000000)=>equ10_sound (s.at V) hs' hin d u hd (hexw _ (by
  have h1:=w_inM (f:=equT) (sz:=7) hu
  have h2:=equ_ex_w u
  omega)) (heq u hu)
 have hc2:=cond10_sound (s.at V) hs' x.unt (by omega) (fun t h=>⟨hexw _ (by have:=w_inM (f:=tranT) (sz:=8) h;have:=tran_ex_w t;omega),ht t h⟩)
 have hc2':firstE (fun t:Tran=>exprRf (s.at V) 1 t.cond) x.unt=condR (s.at V) x.unt:=rfl
 rw[hc2']at hc2
 generalize condR (s.at V) x.unt=q2 at*
 have hauto:=fun a ha all hall=>hF V (by omega) a ha all hall
 have hel:=fun(a:List Str) (u:Equ) (_:u∈x.eqs) (_:(equR (s.at V) a u).2=0)=>equR_len (s.at V) a u
 have hal:=fun(a:List Str) (y:Auto) (_:y∈x.autos) (_:(autF F (s.at V) a y).2=0)=>(show(autF F (s.at V) a y).1.length≤a.length+(autoT y).w by have:=hFl (s.at V) y a;simp only[autF,List.length_append];omega)
 have hEs:=sum_le_w (m:=fun u:Equ=>u.left.length) (f:=equT) 7 x.eqs (fun u _=>left_equ)
 have hAs:=sum_le_w (m:=fun a:Auto=>(autoT a).w) (f:=autoT) 1 x.autos (fun a _=>Nat.le_refl _)
 have haf:∀d a,autF F (s.at V) d a=(d++(F (s.at V) d a).1,(F (s.at V) d a).2):=fun _ _=>rfl
 have hpv:plrC (s.at V)=[.sl 2 (s.p.enums.map enT),nodesT s.p.nodes,T.i s.node,strsT V,strsT s.inputs,strsT s.tags]:=rfl
 rw[hpv]at hc2
 have hauto:=fun a ha all hall=>(hpv ▸ hauto a ha all hall)
 rw[hpv]at hequ
 generalize equR (s.at V)=E at*
 have hGl:=fun a all=>hFl (s.at V) a all
 generalize F (s.at V)=G at*
 generalize autF F (s.at V)=A at*
 rw[staT_C]
 unfold plrC staC at*
 refine Sound.of tabOk Tryz.func181 (by kernel_rfl) rfl rfl ?_
 repeat' (first|refine wv hdecl ?_|refine wkb ?_|refine wk ?_|exact wkc|intro hc|refine wk2 ?_ ?_|fail)
 ·rw[if_pos hc]at hst
  rw[hst];exact wkr
 rw[if_neg hc]at hst
 clear hdecl hF
 refine TR.loopN x.eqs.length (fun j=>(foldS E df (x.eqs.take j)).2=0) (fun j=>[(2,.t (strsT df)),(3,.cp [.sl 2 (s.p.enums.map enT),nodesT s.p.nodes,T.i s.node,strsT s.vis,strsT s.inputs,strsT s.tags] 0),(4,.cp [.s x.name,declsT x.locals,.sl 7 (x.eqs.map equT),.sl 1 (x.autos.map autoT),.sl 8 (x.unl.map tranT),.sl 8 (x.unt.map tranT)] 0),(10,.ref 0 0),(11,.t (strsT (foldS E df (x.eqs.take j)).1)),(12,.i j)]) (fun _=>[.cells [.t (.sl 2 (s.p.enums.map enT)),.t (nodesT s.p.nodes),.i s.node,.t (strsT V),.t (strsT s.inputs),.t (strsT s.tags)]]) rfl (fun j hlj hj=>?_) (fun hj=>?_)
 ·have hx:=at_equ hlj
  have hn:=foldS_next hlj hj
  have hat:=foldS_at hlj hj
  have hl1:=foldS_sum (f:=E) (m:=fun u:Equ=>u.left.length) (x.eqs.take j) (fun a u hu h=>hel a u (List.mem_of_mem_take hu) h) df hj
  have hl2:=sum_tk_le (fun u:Equ=>u.left.length) x.eqs j
  have hll:=(left_equ (q:=x.eqs[j]))
  have hwj:=w_inM (f:=equT) (sz:=7) (List.getElem_mem hlj)
  have he:=hequ x.eqs[j] (List.getElem_mem hlj) (foldS E df (x.eqs.take j)).1 (by omega)
  generalize foldS E df (x.eqs.take j)=d at*
  obtain⟨D,d2⟩:=d
  simp only at hj hn hat he
  subst hj
  generalize x.eqs[j]=u at*
  generalize E D u=e at*
  obtain⟨e1,e2⟩:=e
  simp only at he hat
  unfold equC at hx
  rw[show equT u= .ag [.sl 1 (u.left.map T.s),T.n u.right.kind,T.n u.right.op,T.n u.right.t,T.n u.right.v,.s u.right.name,.sl 6 (u.right.args.map exT)] from rfl]at he
  clear hequ hauto hel hal haf hc1 hc2 hnm
  repeat' (first|refine wkb ?_|refine Go.TL.TR.regionW [11] (envF:=_) (HF:=[.cells [.t (.sl 2 (s.p.enums.map enT)),.t (nodesT s.p.nodes),.i s.node,.t (strsT V),.t (strsT s.inputs),.t (strsT s.tags)]]) [(.ag [.t (.sl 2 (s.p.enums.map enT)),.t (nodesT s.p.nodes),.i s.node,.t (strsT V),.t (strsT s.inputs),.t (strsT s.tags)],true),(.cp [.s x.name,declsT x.locals,.sl 7 (x.eqs.map equT),.sl 1 (x.autos.map autoT),.sl 8 (x.unl.map tranT),.sl 8 (x.unt.map tranT)] 2,false),(.t (.sl 7 (x.eqs.map equT)),false),(.i j,false),(.cp [.sl 1 (u.left.map T.s),T.n u.right.kind,T.n u.right.op,T.n u.right.t,T.n u.right.v,.s u.right.name,.sl 6 (u.right.args.map exT)] 0,false),(.t (.ag [.sl 1 (u.left.map T.s),T.n u.right.kind,T.n u.right.op,T.n u.right.t,T.n u.right.v,.s u.right.name,.sl 6 (u.right.args.map exT)]),false),(.t (strsT D),false),(.tup [.t (strsT e1),.i e2],false),(.tup [.t (strsT e1),.i e2],false),(.t (strsT e1),false),(.i e2,false),(.t (strsT e1),false),(.i e2,false)] [[.cells [.t (.sl 2 (s.p.enums.map enT)),.t (nodesT s.p.nodes),.i s.node,.t (strsT V),.t (strsT s.inputs),.t (strsT s.tags)]],[.cells [.t (.sl 2 (s.p.enums.map enT)),.t (nodesT s.p.nodes),.i s.node,.t (strsT V),.t (strsT s.inputs),.t (strsT s.tags)]]] hmix rfl (by dsimp only[List.map];decide +kernel) rfl ?_ rfl rfl ?_|refine wv he ?_|exact trivial|exact And.intro rfl rfl|refine And.intro (fun H env=>?_) ?_|refine And.intro (fun env=>?_) ?_|refine wk ?_|exact wkc|intro hc|refine wk2 ?_ ?_|fail)
  ·have hz:=hat hc
   rw[hz,if_pos hc]at hst
   rw[hst];exact wkr
  ·have hz:e2=0:=Decidable.not_not.1 hc
   exact LoopK.nextN hlj (by rw[hn];exact hz) (by(try dsimp only);rw[hn];exact⟨rfl,rfl,rfl,rfl,rfl,rfl,trivial⟩)
 rw[List.take_length]at hj⊢
 rw[if_neg (by simp[hj])]at hst
 have hle:=foldS_sum (f:=E) (m:=fun u:Equ=>u.left.length) x.eqs hel df hj
 generalize foldS E df x.eqs=e at*
 obtain⟨D0,e2⟩:=e
 simp only at hj hle hst
 subst hj
 clear hequ hel
 repeat' (first|refine wkb ?_|refine wk ?_|exact wkc|intro hc|refine wk2 ?_ ?_|fail)
 refine TR.loopN x.autos.length (fun j=>(foldS A D0 (x.autos.take j)).2=0) (fun j=>[(2,.t (strsT df)),(3,.cp [.sl 2 (s.p.enums.map enT),nodesT s.p.nodes,T.i s.node,strsT s.vis,strsT s.inputs,strsT s.tags] 0),(4,.cp [.s x.name,declsT x.locals,.sl 7 (x.eqs.map equT),.sl 1 (x.autos.map autoT),.sl 8 (x.unl.map tranT),.sl 8 (x.unt.map tranT)] 0),(10,.ref 0 0),(11,.t (strsT (foldS A D0 (x.autos.take j)).1)),(13,.i j)]) (fun _=>[.cells [.t (.sl 2 (s.p.enums.map enT)),.t (nodesT s.p.nodes),.i s.node,.t (strsT V),.t (strsT s.inputs),.t (strsT s.tags)]]) rfl (fun j hlj hj=>?_) (fun hj=>?_)
 ·refine TR.weak ?_
  have hx:=at_auto hlj
  have hn:=foldS_next hlj hj
  have hat:=foldS_at hlj hj
  have hl1:=foldS_sum (f:=A) (m:=fun a:Auto=>(autoT a).w) (x.autos.take j) (fun a u hu h=>hal a u (List.mem_of_mem_take hu) h) D0 hj
  have hl2:((x.autos.take j).map fun a:Auto=>(autoT a).w).sum+(autoT x.autos[j]).w≤(x.autos.map fun a:Auto=>(autoT a).w).sum:=by
   have:=sum_tk_le (fun a:Auto=>(autoT a).w) x.autos (j+1)
   rw[take_at hlj,List.map_append,List.sum_append]at this
   simpa using this
  have he:=hauto x.autos[j] (List.getElem_mem hlj) (foldS A D0 (x.autos.take j)).1 (by omega)
  have hgl:=hGl x.autos[j] (foldS A D0 (x.autos.take j)).1
  generalize foldS A D0 (x.autos.take j)=d at*
  obtain⟨D,d2⟩:=d
  simp only at hj hn hat he hl1 hgl
  subst hj
  generalize x.autos[j]=a at*
  rw[haf]at hn hat
  rw[autoT_C]at he
  generalize G D a=g at*
  obtain⟨g1,g2⟩:=g
  simp only at he hat hn hgl
  unfold autoC at hx he
  have hdm:(D.map T.s).length=D.length:=List.length_map _
  have hgm:(g1.map T.s).length=g1.length:=List.length_map _
  clear hauto hal haf hc1 hc2 hnm
  repeat' (first|refine wkb ?_|refine wk ?_|fail)
  refine wk2 ?_ ?_ <;> intro hlt' <;> try(exfalso;omega)
  repeat' (first|refine wkb ?_|refine Go.TL.TR.regionW [] (envF:=_) (HF:=[.cells [.t (.sl 2 (s.p.enums.map enT)),.t (nodesT s.p.nodes),.i s.node,.t (strsT V),.t (strsT s.inputs),.t (strsT s.tags)]]) [(.ag [.t (.sl 2 (s.p.enums.map enT)),.t (nodesT s.p.nodes),.i s.node,.t (strsT V),.t (strsT s.inputs),.t (strsT s.tags)],true),(.cp [.s x.name,declsT x.locals,.sl 7 (x.eqs.map equT),.sl 1 (x.autos.map autoT),.sl 8 (x.unl.map tranT),.sl 8 (x.unt.map tranT)] 3,false),(.t (.sl 1 (x.autos.map autoT)),false),(.i j,false),(.cp [.sl 6 (a.states.map staT)] 0,false),(.t (.ag [.sl 6 (a.states.map staT)]),false),(.t (strsT D),false),(.tup [.t (strsT g1),.i g2],false),(.tup [.t (strsT g1),.i g2],false),(.t (strsT g1),false),(.i g2,false),(.t (strsT g1),false),(.i g2,false)] [[.cells [.t (.sl 2 (s.p.enums.map enT)),.t (nodesT s.p.nodes),.i s.node,.t (strsT V),.t (strsT s.inputs),.t (strsT s.tags)]],[.cells [.t (.sl 2 (s.p.enums.map enT)),.t (nodesT s.p.nodes),.i s.node,.t (strsT V),.t (strsT s.inputs),.t (strsT s.tags)]]] hmix rfl (by dsimp only[List.map];decide +kernel) rfl ?_ rfl rfl ?_|refine wv he ?_|exact trivial|exact And.intro rfl rfl|refine And.intro (fun H env=>?_) ?_|refine And.intro (fun env=>?_) ?_|refine wk ?_|fail)
  refine wk2 (fun hc=>?_) (fun hc=>?_)
  ·repeat' (first|refine wkb ?_|refine wk ?_|refine WeakK.ret ?_|fail)
   have hz:=hat hc
   rw[hz,if_pos hc]at hst
   rw[hst];exact wkr
  ·repeat' (first|(apply TO.build0 tabOk;exact rfl;exact rfl;exact rfl;exact rfl;exact rfl)|(apply TO.append0 tabOk;exact rfl;exact rfl;exact rfl;exact rfl;exact rfl;exact rfl;exact rfl;exact rfl;exact rfl;exact rfl;exact rfl;exact rfl;exact rfl;(first|omega|(simp only[List.length_map];omega));exact rfl)|refine Go.TL.TR.region ?_|(apply Go.TL.TO.go tabOk 1 true;exact rfl;(first|apply Go.TL.GG.to|apply Go.TL.GG.stop|apply Go.TL.GG.tr0|apply Go.TL.GG.tr|apply Go.TL.GG.ex))|(apply Go.TL.TR.go0 tabOk 1 true;exact rfl;(first|apply Go.TL.GG.to|apply Go.TL.GG.stop|apply Go.TL.GG.tr0|apply Go.TL.GG.tr|apply Go.TL.GG.ex))|(apply Go.TL.TR.go tabOk 1 true;exact rfl;(first|apply Go.TL.GG.to|apply Go.TL.GG.stop|apply Go.TL.GG.tr0|apply Go.TL.GG.tr|apply Go.TL.GG.ex))|(apply Go.TL.TExit.go tabOk 1 true;exact rfl;(first|apply Go.TL.GG.to|apply Go.TL.GG.stop|apply Go.TL.GG.tr0|apply Go.TL.GG.tr|apply Go.TL.GG.ex))|fail)
   repeat' (first|refine wkb ?_|refine wk ?_|fail)
   have hz:g2=0:=Decidable.not_not.1 hc
   refine WeakK.own 11 rfl ?_
   refine LoopK.nextC 1 hlj (by rw[hn];exact hz) rfl rfl rfl rfl rfl ?_
   (try dsimp only)
   rw[hn]
   rw[show strsT (D++g1,g2).1=T.sl 1 (D.map T.s++g1.map T.s) from by simp[strsT]]
   exact⟨rfl,rfl,rfl,rfl,rfl,rfl,trivial⟩
 rw[List.take_length]at hj⊢
 rw[if_neg (by simp[hj])]at hst
 have hle2:=foldS_sum (f:=A) (m:=fun a:Auto=>(autoT a).w) x.autos hal D0 hj
 generalize foldS A D0 x.autos=e at*
 obtain⟨D1,e2⟩:=e
 simp only at hj hle2 hst
 subst hj
 clear hauto hal haf
 have w1:=without_sound D1 df (by omega) (by omega)
 have w2:=without_sound (x.locals.map Decl.name) (wo D1 df) (by rw[List.length_map];omega) (by have:=wo_len D1 df;omega)
 have w3:=without_sound (wo D1 df) (x.locals.map Decl.name) (by have:=wo_len D1 df;omega) (by rw[List.length_map];omega)
 rw[show(D1.filter fun s=>!decide (s∈df))=wo D1 df from rfl]at w1
 rw[show((x.locals.map Decl.name).filter fun s=>!decide (s∈wo D1 df))=wo (x.locals.map Decl.name) (wo D1 df) from rfl]at w2
 rw[show((wo D1 df).filter fun s=>!decide (s∈x.locals.map Decl.name))=wo (wo D1 df) (x.locals.map Decl.name) from rfl]at w3
 generalize wo (wo D1 df) (x.locals.map Decl.name)=o3 at*
 generalize hw2:wo (x.locals.map Decl.name) (wo D1 df)=o2 at*
 generalize wo D1 df=o1 at*
 generalize x.locals.map Decl.name=ln at*
 have ho2:(o2.map T.s).length=o2.length:=List.length_map _
 repeat' (first|refine wkb ?_|refine wv hc1 ?_|refine wv hc2 ?_|refine wv w1 ?_|refine wv hnm ?_|refine wv w2 ?_|refine wv w3 ?_|refine wk ?_|exact wkc|intro hc|refine wk2 ?_ ?_|fail)
 ·rw[if_pos hc]at hst
  rw[hst];exact wkr
 ·rename_i c1
  rw[if_neg c1,if_pos hc]at hst
  rw[hst];exact wkr
 ·rename_i c1 c2
  rw[if_neg c1,if_neg c2,if_pos (by rintro rfl;simp at hc)]at hst
  rw[hst];exact wkr
 ·rename_i c1 c2
  rw[if_neg c1,if_neg c2,if_neg (by
   rw[Decidable.not_not]
   exact List.eq_nil_of_length_eq_zero (by omega))]at hst
  rw[hst];exact wkr
end Go.Proofs.YtlocalghkiepmaaGreat
