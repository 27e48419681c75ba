import Derived.Test.YtjgmcnemcembmaaGreatDoorPk13
import Derived.Test.YtjgmcnemcembmaaGreatDoorPk14
import Derived.Test.YtjgmcnemcembmaaGreatDoorPk15
import Derived.Test.YtjgmcnemcembmaaGreatDoorPk16
import Derived.Test.YtjgmcnemcembmaaGreatDoorPk18
set_option linter.unusedSimpArgs false
set_option linter.unusedVariables false
namespace Go.Proofs.YtjgmcnemcembmaaGreatDoor
open Go Go.TL
attribute [local irreducible] TR TO Then InBlock RetK Sound LoopK Kf GG ThenL
def insI(es:List En)(k t v n:Int):Int:=
 if k=1\/k=8\/k=9 then(if sizeOfT es t=0 then 10 else if k≠9/\hasT es t v=false then 14 else if k=9/\n≠sizeOfT es t then 9 else 0) else 0
def insX(es:List En)(x:Ex):Int:=insI es x.kind.1 x.t.1 x.v.1 x.args.length
def exprX(es:List En)(e:Ex):Int:=if checkX e=0 then firstE (insX es) (flat e) else checkX e
theorem size_nonneg(es:List En)(t:Int):0≤sizeOfT es t:=by
 unfold sizeOfT;repeat' split
 all_goals omega
theorem insX_sound(es:List En)(x:Ex):Pure Tryz.prog 66 [.t (ensT es),.t (.ag (exC x))] (.i (insX es x)):=by
 have hs:=size_sound es x.t
 have hh:=has_sound es x.t x.v
 have hnn:=size_nonneg es x.t.1
 have hcx:exC x=[T.n x.kind,T.n x.op,T.n x.t,T.n x.v,.s x.name,.sl 6 (x.args.map exT)]:=rfl
 have hmx:(x.args.map exT).length=x.args.length:=List.length_map _
 rw[hcx]
 unfold insX insI
 generalize sizeOfT es x.t.1=sz at*
 generalize hasT es x.t.1 x.v.1=hb at*
 refine so Tryz.func66 ?_
 repeat' (first|refine wu ?_|exact wkc|intro hc|refine wk2 ?_ ?_|refine wv hs ?_|refine wb hh ?_ ?_|fail)
 all_goals
  clear hs hh hcx
  refine RetK.pure rfl (Le.of_eq ?_) rfl
  refine congrArg (fun z=>SV.t (T.v (Value.int IntKind.i64 z))) ?_
  grind
theorem valid_sound(es:List En)(t:I64):Pure Tryz.prog 112 [.t (ensT es),.n t] (.b (decide (0<sizeOfT es t.1))):=by
 have hs:=sizeR_sound es t
 refine so Tryz.func112 ?_
 repeat' (first|refine wu ?_|exact wkc|intro hc|refine wk2 ?_ ?_|refine wv hs ?_|fail)
 all_goals
  refine RetK.pure rfl (Le.of_eq ?_) rfl
  refine congrArg (fun b=>SV.t (T.v (Value.bool b))) ?_
  simp[hc]
theorem insR_sound'(es:List En):∀(m:Nat) (e:Ex),wEx e≤m->wEx e≤1000000000->Pure Tryz.prog 74 [.t (ensT es),.t (exT e)] (.i (firstE (insX es) (flat e))):=by
 intro m
 induction m with
 | zero=>intro e he;have:=wEx_pos e;omega
 | succ m ih0=>
   intro e he hb
   have ih:∀x∈e.args,Pure Tryz.prog 74 [.t (ensT es),.t (exT x)] (.i (firstE (insX es) (flat x))):=fun x hx=>ih0 x (by have:=wEx_arg hx;omega) (by have:=wEx_arg hx;omega)
   clear ih0
   have hll:=wEx_args e
   rw[flat_eq,firstE,exT_eq]
   have hv:=valid_sound es e.t
   have hh:=hasR_sound es e.t e.v
   have hs:=sizeR_sound es e.t
   have hnn:=size_nonneg es e.t.1
   have hml:(e.args.map exT).length=e.args.length:=List.length_map _
   have hcx:exC e=[T.n e.kind,T.n e.op,T.n e.t,T.n e.v,.s e.name,.sl 6 (e.args.map exT)]:=rfl
   rw[hcx]
   have hz:insX es e=(if e.kind.1=1\/e.kind.1=8\/e.kind.1=9 then(if sizeOfT es e.t.1=0 then 10 else if e.kind.1≠9/\hasT es e.t.1 e.v.1=false then 14 else if e.kind.1=9/\(e.args.length:Int)≠sizeOfT es e.t.1 then 9 else 0) else 0):=rfl
   generalize insX es e=z at hz⊢
   generalize sizeOfT es e.t.1=sz at*
   generalize hasT es e.t.1 e.v.1=hb at*
   refine so Tryz.func74 ?_
   repeat' (first|refine wu ?_|exact wkc|intro hc|refine wk2 ?_ ?_|refine wb hv ?_ ?_|refine wb hh ?_ ?_|refine wv hs ?_|fail)
   all_goals first
    | (refine RetK.pure rfl (Le.of_eq ?_) rfl
       clear hv hh hs ih
       refine congrArg (fun z=>SV.t (T.v (Value.int IntKind.i64 z))) ?_
       grind)
    | skip
   all_goals
    rw[if_pos (show z=0 from by clear hv hh hs ih;grind)]
    clear hz
    clear hv hh hs
    generalize e.args=l at*
    refine TR.loopN l.length (fun k=>firstE (insX es) (flats (l.take k))=0) (fun k=>[(0,.t (ensT es)),(3,.cp [T.n e.kind,T.n e.op,T.n e.t,T.n e.v,.s e.name,.sl 6 (l.map exT)] 0),(5,.i k)]) (fun _=>[]) rfl (fun k hlt ha=>?_) (fun ha=>?_)
    ·have hx:=at_exT hlt
     have hs:=ih l[k] (List.getElem_mem hlt)
     have htk:=flats_take l hlt
     have hsp:=flats_split l hlt
     rw[exT_eq]at hs
     generalize l[k]=x at hx hs htk hsp
     unfold exC at hx hs
     repeat' (first|refine wu ?_|exact wkc|intro hc|refine wk2 ?_ ?_|refine wv hs ?_|fail)
     ·refine RetK.pure rfl (Le.of_eq ?_) rfl
      refine congrArg (fun z=>SV.t (T.v (Value.int IntKind.i64 z))) ?_
      rw[hsp,firstE_append,if_pos ha,firstE_append,if_neg hc]
     ·refine LoopK.nextN hlt ?_
      rw[htk,firstE_append,if_pos ha]
      simpa using hc
    ·rw[List.take_length]at ha
     rw[ha]
     repeat' (first|refine wu ?_|exact wkc|intro hc|refine wk2 ?_ ?_|fail)
     exact wkr
theorem insR_sound(es:List En)(e:Ex)(h:wEx e≤1000000000):Pure Tryz.prog 74 [.t (ensT es),.t (exT e)] (.i (firstE (insX es) (flat e))):=insR_sound' es _ e (Nat.le_refl _) h
theorem exprR_sound(es:List En)(e:Ex)(h:wEx e≤1000000000):Pure Tryz.prog 38 [.t (ensT es),.t (exT e)] (.i (exprX es e)):=by
 have h1:=checkR6_sound e h
 have h2:=insR_sound es e h
 rw[exT_eq]at*
 unfold exC at*
 unfold exprX
 refine so Tryz.func38 ?_
 repeat' (first|refine wu ?_|exact wkc|intro hc|refine wk2 ?_ ?_|refine wv h1 ?_|refine wv h2 ?_|fail)
 ·rw[if_neg hc];exact wkr
 ·rw[if_pos (by simpa using hc)];exact wkr
theorem exprX_sound(es:List En)(e:Ex)(h:wEx e≤1000000000):Pure Tryz.prog 36 [.t (ensT es),.t (exT e)] (.i (exprX es e)):=by
 have hck:=checkX_sound e h
 have hs:=Each_sound e
 rw[exT_eq]at*
 have hc0:exC e=[T.n e.kind,T.n e.op,T.n e.t,T.n e.v,.s e.name,.sl 6 (e.args.map exT)]:=rfl
 rw[hc0]at hs hck⊢
 unfold exprX
 refine so Tryz.func36 ?_
 by_cases h1:checkX e=0
 ·rw[if_pos h1]
  repeat' (first|refine wkb ?_|refine wk ?_|exact wkc|intro hc|refine wk2 ?_ ?_|refine wv hck ?_|refine wv hs ?_|fail)
  refine TR.rangeEach e (fun _=>[.cells [.i 0]]) (errF (insX es)) rfl h rfl rfl rfl (fun _=>⟨rfl,rfl⟩) (fun pre x=>?_) (fun fn pre x post hw=>?_) (fun fn=>?_)
  ·unfold errF
   split <;> rename_i hq <;> split at hq <;> cases hq
   ·trivial
   ·exact⟨rfl,rfl⟩
  ·have ho:=insX_sound es x
   have hcx:exC x=[T.n x.kind,T.n x.op,T.n x.t,T.n x.v,.s x.name,.sl 6 (x.args.map exT)]:=rfl
   rw[hcx]at ho⊢
   repeat' (first|refine wu ?_|exact wkc|intro hc|refine wk2 ?_ ?_|fail)
   refine⟨rfl,?_⟩
   repeat' (first|refine wu ?_|exact wkc|intro hc|refine wk2 ?_ ?_|refine wv ho ?_|fail)
   ·refine⟨_,?_,rfl,rfl⟩
    rw[errF,if_neg hc]
    rfl
   ·refine⟨?_,rfl,rfl⟩
    rw[errF,if_pos (by simpa using hc)]
  ·rw[scan_err]
   by_cases h2:firstE (insX es) (flat e)=0
   ·rw[if_pos h2,h2]
    repeat' (first|refine wu ?_|exact wkc|intro hc|refine wk2 ?_ ?_|fail)
    exact wkr
   ·rw[if_neg h2]
    simp only[]
    repeat' (first|refine wu ?_|exact wkc|intro hc|refine wk2 ?_ ?_|fail)
    exact wkr
 ·rw[if_neg h1]
  repeat' (first|refine wkb ?_|refine wk ?_|exact wkc|intro hc|refine wk2 ?_ ?_|refine wv hck ?_|refine wv hs ?_|fail)
  exact wkr
def idxI{α:Type}(p:α->Bool):List α->Int
 | []=>-1
 | x::l=>if p x then 0 else if idxI p l<0 then -1 else idxI p l+1
abbrev declsT (l:List Decl):T:=.sl 3 (l.map declT)
abbrev nodesT (l:List Nod):T:=.sl 8 (l.map nodT)
structure Plc where
 p:Prog
 node:I64
 env:List Decl
def findN(p:Prog)(nm:Str):Int×Bool:=(max (idxI (fun n=>n.name == nm) p.nodes) 0,decide (0≤idxI (fun n=>n.name == nm) p.nodes))
def progC(p:Prog):List T:=[.sl 2 (p.enums.map enT),nodesT p.nodes]
def insOk:List Decl->List Int->Bool
 | d::ds,t::ts=>decide (t=d.ty.1) && insOk ds ts
 | _,_=>true
def callT(w:Plc)(e:Ex)(l:List Int)(inner:Bool):List Int×Int:=
 if(findN w.p e.name).2=false\/w.node.1≤(findN w.p e.name).1 then([],6) else
 match w.p.nodes[(findN w.p e.name).1.toNat]? with
 | none=>([],6)
 | some n=>
   if(l.length:Int)≠n.ins.length+e.v.1\/(inner=true/\n.outs.length≠1) then([],9)
   else if insOk n.ins l=false then([],10)
   else if e.v.1=1/\l.getD n.ins.length 0≠1 then([],10)
   else(n.outs.map (·.ty.1),0)
def nodC(d:Nod):List T:=[.s d.name,declsT d.ins,declsT d.outs,declsT d.locals,.sl 7 (d.eqs.map equT),.sl 1 (d.autos.map autoT),.sl 6 (d.assume.map exT),.sl 6 (d.ensure.map exT)]
def declC(d:Decl):List T:=[.s d.name,T.n d.ty,.sl 3 (d.clock.map onT)]
theorem at_nod{l:List Nod}{k:Nat}(h:k<l.length):(l.map nodT)[k]?=some (.ag (nodC l[k])):=at_map nodT h
theorem at_decl{l:List Decl}{k:Nat}(h:k<l.length):(l.map declT)[k]?=some (.ag (declC l[k])):=at_map declT h
theorem firstE_zero{α:Type}{f:α->Int}:∀ {l:List α},firstE f l=0->∀x∈l,f x=0
 | [],_,x,hx=>by cases hx
 | y::l,h,x,hx=>by
   unfold firstE at h
   by_cases hy:f y=0
   ·rcases List.mem_cons.1 hx with rfl|hx
    ·exact hy
    ·exact firstE_zero (l:=l) (by simpa [hy]using h) x hx
   ·simp[hy]at h
def orE(a b:Int):Int:=if a=0 then b else a
def identE(s:Str):Int:=if ident s=true then 0 else 6
def onE(es:List En)(o:OnC):Int:=orE (identE o.name) (if o.t.1≠2/\hasT es o.t.1 o.tag.1=true then 0 else 5)
def declE(es:List En)(port:Bool)(d:Decl):Int:=
 orE (identE d.name) (orE (if 0<sizeOfT es d.ty.1 then 0 else 10) (orE (if port=true/\d.clock.length≠0 then 11 else 0) (orE (if d.clock.length≤4 then 0 else 3) (firstE (onE es) d.clock))))
def equE(es:List En)(q:Equ):Int:=
 orE (if q.left.length=0 then 8 else 0) (orE (if q.left.length≤64 then 0 else 3) (orE (firstE identE q.left) (orE (exprX es q.right) (if q.left.length=1\/q.right.kind.1=10 then 0 else 5))))
def slessI(k:Int):Bool:=decide (k≠5/\k≠6/\k≠7/\k≠10/\k≠11)
def sless(e:Ex):Bool:=(flat e).all fun x=>slessI x.kind.1
def tranE(es:List En)(states:Int)(strong:Bool)(t:Tran):Int:=
 orE (if 0≤t.to.1/\t.to.1<states then 0 else 14) (orE (exprX es t.cond) (if strong=false\/sless t.cond=true then 0 else 5))
def stE(es:List En)(auto:Auto->Int)(n:Int)(s:Sta):Int:=
 orE (identE s.name) (orE (if s.locals.length≤256/\s.eqs.length≤256/\s.autos.length≤8/\s.unl.length≤4/\s.unt.length≤4 then 0 else 3)
  (orE (firstE (declE es false) s.locals) (orE (firstE (equE es) s.eqs) (orE (firstE auto s.autos) (orE (firstE (tranE es n true) s.unl) (firstE (tranE es n false) s.unt))))))
def autoE(es:List En):Nat->Auto->Int
 | 0,_=>3
 | k+1,a=>orE (if a.states.length=0 then 8 else 0) (orE (if a.states.length≤8 then 0 else 3) (firstE (stE es (autoE es k) a.states.length) a.states))
def enumE(u:En):Int:=orE (identE u.name) (orE (if u.tags.length=0 then 8 else 0) (orE (if u.tags.length≤16 then 0 else 3) (firstE identE u.tags)))
def headE(es:List En)(n:Nod):Int:=
 orE (identE n.name) (orE (if n.ins.length≤64/\n.outs.length≤64/\n.locals.length≤256/\n.eqs.length≤256/\n.autos.length≤8/\n.assume.length≤8/\n.ensure.length≤8 then 0 else 3)
  (orE (if n.outs.length=0 then 8 else 0) (orE (firstE (declE es true) n.ins) (orE (firstE (declE es true) n.outs) (firstE (declE es false) n.locals)))))
def tailE(es:List En)(n:Nod):Int:=orE (firstE (autoE es 3) n.autos) (orE (firstE (exprX es) n.assume) (firstE (exprX es) n.ensure))
def firstI{α:Type}(g:α->Int):List α->Int×Int
 | []=>(0,0)
 | x::l=>if g x=0 then(if(firstI g l).2=0 then(0,0) else((firstI g l).1+1,(firstI g l).2)) else(0,g x)
theorem firstI_snd{α:Type}(g:α->Int):∀(l:List α),(firstI g l).2=firstE g l
 | []=>rfl
 | x::l=>by
   simp only[firstI,firstE]
   rw[<-firstI_snd g l]
   split
   ·split <;> simp_all
   ·rfl
theorem firstI_append{α:Type}(g:α->Int):∀(a b:List α),firstI g (a++b)=if firstE g a=0 then(if firstE g b=0 then(0,0) else((firstI g b).1+a.length,firstE g b)) else firstI g a
 | [],b=>by
   have:=firstI_snd g b
   simp only[List.nil_append,firstE,if_true,List.length_nil]
   split
   ·rename_i h
    cases b with
    | nil=>rfl
    | cons x l=>
      simp only[firstI,firstE]at*
      grind
   ·rw[<-this];simp
 | x::a,b=>by
   have h1:=firstI_snd g (a++b)
   have h2:=firstI_snd g a
   have h3:=firstE_append g a b
   simp only[List.cons_append,firstI,firstE,firstI_append g a b,List.length_cons]at*
   grind
def nodeX(es:List En)(n:Nod):Int×Int:=
 if headE es n≠0 then(-1,headE es n) else if firstE (equE es) n.eqs≠0 then firstI (equE es) n.eqs else(-1,tailE es n)
def limE(p:Prog):Int:=if p.enums.length≤24/\p.nodes.length≤96 then 0 else 3
def shapeX(p:Prog):(Int×Int)×Int:=
 if limE p≠0 then((-1,-1),limE p) else if firstE enumE p.enums≠0 then((-1,-1),firstE enumE p.enums) else
 if firstE (fun n=>(nodeX p.enums n).2) p.nodes=0 then((0,0),0) else
  let i:=(firstI (fun n=>(nodeX p.enums n).2) p.nodes).1
  ((i,((p.nodes[i.toNat]?).map fun n=>(nodeX p.enums n).1).getD 0),firstE (fun n=>(nodeX p.enums n).2) p.nodes)
def strW:Value->Nat
 | .string s=>s.size
 | _=>0
def _root_.Go.TL.T.w:T->Nat
 | .v x=>1+strW x
 | .sl _ es=>1+(es.attach.map fun x=>x.1.w).sum
 | .ag cs=>1+(cs.attach.map fun x=>x.1.w).sum
decreasing_by
 all_goals
  have:=List.sizeOf_lt_of_mem x.2
  simp;omega
theorem w_sl(sz:Nat)(es:List T):(T.sl sz es).w=1+(es.map T.w).sum:=by rw[T.w];simp
theorem w_ag(cs:List T):(T.ag cs).w=1+(cs.map T.w).sum:=by rw[T.w];simp
theorem w_s(s:Str):(T.s s).w=1+s.length:=by rw[T.w];rfl
theorem w_pos(t:T):1≤t.w:=by
 cases t with
 | v=>rw[T.w];omega
 | sl=>rw[w_sl];omega
 | ag=>rw[w_ag];omega
theorem w_len(sz:Nat)(es:List T):es.length<(T.sl sz es).w:=by
 have:=sum_len T.w w_pos es
 rw[w_sl];omega
theorem w_in{sz:Nat}{es:List T}{t:T}(h:t∈es):t.w<(T.sl sz es).w:=by
 have:=sum_mem T.w h
 rw[w_sl];omega
theorem w_lenM{α:Type}(f:α->T)(sz:Nat)(l:List α):l.length<(T.sl sz (l.map f)).w:=by
 have:=w_len sz (l.map f);simpa using this
theorem w_inM{α:Type}{f:α->T}{sz:Nat}{l:List α}{x:α}(h:x∈l):(f x).w<(T.sl sz (l.map f)).w:=w_in (List.mem_map_of_mem h)
theorem wEx_w:∀(m:Nat) (e:Ex),wEx e≤m->wEx e≤(exT e).w
 | 0,e,h=>by have:=wEx_pos e;omega
 | m+1,e,h=>by
   have ih:∀x∈e.args,wEx x≤(exT x).w:=fun x hx=>wEx_w m x (by have:=wEx_arg hx;omega)
   have hs:(e.args.map wEx).sum≤((e.args.map exT).map T.w).sum:=by
    generalize e.args=l at ih
    clear h
    induction l with
    | nil=>simp
    | cons a l ih2=>
      have h1:=ih a (by simp)
      have h2:=ih2 (fun x hx=>ih x (by simp[hx]))
      simp only[List.map_cons,List.sum_cons];omega
   rw[wEx_eq,exT_eq,w_ag]
   simp only[exC,List.map_cons,List.sum_cons,w_sl]
   omega
theorem wEx_le(e:Ex):wEx e≤(exT e).w:=wEx_w _ e (Nat.le_refl _)
end Go.Proofs.YtjgmcnemcembmaaGreatDoor
namespace Go.TL
open Go
theorem forceL_self{α:Type}:∀(l:List α),forceL l=some l
 | []=>rfl
 | x::l=>by simp[forceL,forceL_self l]
theorem dead_ok{m:M}(hm:HRel m):Step m ⟨m.A,m.β,m.H.map (fun _=>.dead),m.w⟩/\HRel ⟨m.A,m.β,m.H.map (fun _=>.dead),m.w⟩:=by
 have pick:∀(i:Nat) c,(m.H.map (fun _=>Blk.dead))[i]?=some c->c= .dead:=by
  intro i c h
  rw[List.getElem?_map]at h
  cases hq:m.H[i]? with
  | none=>rw[hq]at h;cases h
  | some x=>rw[hq]at h;cases h;rfl
 have own:∀b o,¬Own ⟨m.A,m.β,m.H.map (fun _=>.dead),m.w⟩ b o:=by
  rintro b o ⟨i,q,c,h1,h2,h3,h4⟩
  have:=pick i c h2
  subst this
  cases h3
 refine⟨⟨rfl,rfl,rfl,Nat.le_refl _,fun _ _ h=>h,fun _ _ h=>.inl h,fun b o h=>absurd h (own b o),fun _ _ _ _=>rfl,fun _ _ _ _ _=>rfl,fun _ _ _=>rfl,fun _ _ h=>h,fun _ L h=>⟨L,h⟩,fun _ _ _ h=>h,fun i q hq=>⟨q,hq,?_⟩⟩,?_⟩
 ·have hd:∀n,tlOf (m.H.map (fun _=>Blk.dead))[i]? ≠some n:=by
   intro n h
   cases hq:(m.H.map (fun _=>Blk.dead))[i]? with
   | none=>rw[hq]at h;cases h
   | some x=>have:=pick i x hq;subst this;rw[hq]at h;cases h
  show IdStep m.H[i]? (m.H.map (fun _=>Blk.dead))[i]? q q
  unfold IdStep
  split
  ·exact fun n' h=>absurd h (hd n')
  ·exact⟨rfl,hd⟩
 ·refine⟨by simpa using hm.len,fun i q c h1 h2=>?_,fun i j q r c l hij h1 h2 h3 h4 hc hl=>?_,fun b o h hn=>own b o hn,hm.inA,fun i q c h1 h2 hc hq=>?_,hm.glob⟩
  ·have:=pick i c h2;subst this;trivial
  ·have:=pick i c h2;subst this;cases hc
  ·have:=pick i c h2;subst this;cases hc
theorem blksUnder_dead(k:Nat):∀n,blksUnder k (List.replicate n .dead)=true
 | 0=>rfl
 | n+1=>by
   rw[List.replicate_succ,blksUnder,blksUnder_dead k n]
   rfl
theorem Sound.deadP{P:Program}{f:FuncId}{args:List SV}{H:Heap}{R R':Res->Heap->Prop}(h:Sound P f args H R)(hr:∀v H',R (.ret v) H'->R' (.ret v) H')
  (hp:∀v H',R (.panic v) H'->v.under H.length=true/\H.length≤H'.length/\R' (.panic v) (List.replicate H.length .dead)):Sound P f args H R':=by
 refine⟨h.1,fun m vs h1 h2 h3=>Calls.mono (h.2 m vs h1 h2 h3) ?_⟩
 rintro e w' ⟨m',r,rfl,s,hm',hres,hR⟩
 cases r with
 | ret v=>exact⟨m',.ret v,rfl,s,hm',hres,hr v _ hR⟩
 | panic v=>
   obtain⟨g1,g2,g3⟩:=hp v _ hR
   obtain⟨s1,hm1⟩:=dead_ok hm'
   have hl:(m'.H.map (fun _=>Blk.dead)).take H.length=List.replicate H.length .dead:=by
    rw[List.map_const',List.take_replicate,Nat.min_eq_left g2]
   obtain⟨c1,c2,c3⟩:=cut_ok (k:=H.length) hm1 (s.trans s1) (by simpa using g2) (by rw[h2.len,h1];exact Nat.le_refl _) (by show blksUnder _ (List.take _ (m'.H.map _))=true;rw[hl];exact blksUnder_dead _ _)
   refine⟨M.cut ⟨m'.A,m'.β,m'.H.map fun _=>.dead,m'.w⟩ H.length,.panic v,rfl,c1,c2,?_,?_⟩
   ·cases e with
    | panicked ch=>
      obtain⟨x,x1,x2⟩:=hres
      exact⟨x,x1,c3 v x g1 (s1.srel hm' x2)⟩
    | _=>simp[ResRel]at hres
   ·show R' (.panic v) (List.take _ (m'.H.map _))
    rw[hl];exact g3
def Err(c:Int)(v pv:SV)(H1:Heap):Res->Heap->Prop:=fun r H'=>if c=0 then r= .ret v/\H'=H1 else r= .panic pv/\H'=List.replicate H1.length .dead
def Err0(c:Int)(v pv:SV)(H1:Heap)(N:Nat):Res->Heap->Prop:=fun r H'=>if c=0 then r= .ret v/\H'=H1 else r= .panic pv/\N≤H'.length
theorem Sound.err{P:Program}{f:FuncId}{args:List SV}{H H1:Heap}{c:Int}{v pv:SV}(hl:H1.length=H.length)(hu:∀k,pv.under k=true)(h:Sound P f args H (Err0 c v pv H1 H.length)):Sound P f args H (Err c v pv H1):=by
 refine h.deadP (fun u H' g=>?_) (fun u H' g=>?_)
 ·unfold Err0 at g;unfold Err
  split at g
  ·rename_i hc;rw[if_pos hc];exact g
  ·cases g.1
 ·unfold Err0 at g;unfold Err
  split at g
  ·cases g.1
  ·rename_i hc
   obtain⟨g1,g2⟩:=g
   cases g1
   exact⟨hu _,g2,by rw[if_neg hc,hl];exact⟨rfl,rfl⟩⟩
section rules
variable {P:Program}{n:Nat}{env:Env}{H:Heap}{K:TK}{all:Array Oper}{rest:List Oper}{tab:Tab}
variable {d:Nat}{ty:TypeId}{pos:String}{aft:Array Edge}
theorem TO.callE(l:List Nat){Hc H1 H2 H3:Heap}{c:Int}{cargs:List SV}{v v' pv:SV}{f:Operand}{fid:FuncId}{caps:List SV}{args:Array Operand}{ts:Array TypeId}{vs:List SV}
  (hs:Sound P fid cargs Hc (Err c v pv H1))(hd:Nat.ble (d+1) n=true)(hf:env.val f=some (.fn fid caps))(ha:env.vals args.toList=some vs)(hl:Les (vs++caps) (rens (names l H.length) cargs))(hu:unders Hc.length cargs=true)(hh:Hands H l Hc)
  (hv:v.ren (names l H.length)=v')(hpv:pv.ren (names l H.length)=pv)(hH:patch H l (H1.map (Blk.ren (names l H.length)))=H2)(hD:patch H l ((List.replicate H1.length .dead).map (Blk.ren (names l H.length)))=H3)
  (k:c=0->TO false P n all rest ((d,v')::env) H2 K)(kp:c≠0->K (.panic pv) env H3):
  TO false P n all (⟨some d,.call { callee:=.value f,args:=args,argTypes:=ts },ty,pos,aft,none⟩::rest) env H K:=by
 refine TO.call l hs hd hf ha hl hu hh (fun u Hc' h=>?_) (fun u Hc' h=>?_)
 ·unfold Err at h
  split at h
  ·rename_i hc
   obtain⟨h1,rfl⟩:=h
   cases h1
   rw[hv,hH];exact k hc
  ·cases h.1
 ·unfold Err at h
  split at h
  ·cases h.1
  ·rename_i hc
   obtain⟨h1,rfl⟩:=h
   cases h1
   rw[hpv,hD];exact kp hc
theorem TO.callEN(N:Nat){Hc H1 H2:Heap}{c:Int}{cargs:List SV}{v pv:SV}{f:Operand}{fid:FuncId}{caps:List SV}{args:Array Operand}{ts:Array TypeId}{vs:List SV}
  (hs:Sound P fid cargs Hc (Err c v pv H1))(hd:Nat.ble (d+1) n=true)(hf:env.val f=some (.fn fid caps))(ha:env.vals args.toList=some vs)(hl:Les (vs++caps) cargs)
  (hN:Nat.ble N H.length=true)(hc:H.take N=Hc)(hu:unders N cargs=true)(hb:blksUnder N Hc=true)(hv:v.under N=true)(hpv:pv.under N=true)(h1:H1.length=N)(h2:blksUnder N H1=true)
  (hH:forceL (H1++H.drop N)=some H2)(k:c=0->TO false P n all rest ((d,v)::env) H2 K)(kp:c≠0->K (.panic pv) env (List.replicate N .dead++H.drop N)):
  TO false P n all (⟨some d,.call { callee:=.value f,args:=args,argTypes:=ts },ty,pos,aft,none⟩::rest) env H K:=by
 refine TO.callT N hs ⟨fun u G hr=>?_,fun u G hr=>?_⟩ hd hf ha hl hu (Nat.le_of_ble_eq_true hN) hc hb (fun u G hr=>?_) (fun u G hr=>?_)
 ·unfold Err at hr
  split at hr
  ·obtain⟨h,rfl⟩:=hr;cases h;exact⟨hv,h1,h2⟩
  ·cases hr.1
 ·unfold Err at hr
  split at hr
  ·cases hr.1
  ·obtain⟨h,rfl⟩:=hr;cases h;exact⟨hpv,by simp[h1],blksUnder_dead _ _⟩
 ·unfold Err at hr
  split at hr
  ·rename_i hc0
   obtain⟨h,rfl⟩:=hr;cases h;rw[<-forceL_eq hH];exact k hc0
  ·cases hr.1
 ·unfold Err at hr
  split at hr
  ·cases hr.1
  ·rename_i hc0
   obtain⟨h,rfl⟩:=hr;cases h;rw[h1];exact kp hc0
theorem RetK.errP{rs:List ResultVar}{N:Nat}{c:Int}{v pv:SV}{H1:Heap}(hc:c≠0)(hN:Nat.ble N H.length=true)(hu:pv.under H.length=true)(hb:blksUnder H.length H=true):RetK tab rs N (Err0 c v pv H1 N) (.panic pv) env H:=by
 have hn:=Nat.le_of_ble_eq_true hN
 have ht:H.take H.length=H:=List.take_of_length_le (Nat.le_refl _)
 exact⟨pv,H.length,Le.refl _,hn,Nat.le_refl _,hu,by rw[ht];exact hb,by rw[ht];unfold Err0;rw[if_neg hc];exact⟨rfl,hn⟩⟩
theorem RetK.errN{rs:List ResultVar}{N:Nat}{c:Int}{v pv:SV}{H1:Heap}{vs:List SV}(hc:c=0)(hr:resAll tab env H rs=some vs)(hl:Le (pack vs) v)(hN:Nat.ble N H1.length=true)(hk:Nat.ble H1.length H.length=true)(hu:v.under H1.length=true)
  (ht:H.take H1.length=H1)(hb:blksUnder H1.length H1=true):RetK tab rs N (Err0 c v pv H1 N) .normal env H:=
 ⟨vs,v,H1.length,hr,hl,Nat.le_of_ble_eq_true hN,Nat.le_of_ble_eq_true hk,hu,by rw[ht];exact hb,by rw[ht];unfold Err0;rw[if_pos hc];exact⟨rfl,rfl⟩⟩
variable {q:Bool}
theorem TO.allocC2(hT:TabOk P tab){t:TypeId}{i:TyI}{x y:Operand}{j2:Nat}{v vx:SV}{ts:List T}{ty' ty2:TypeId}{pos' pos2:String}{aft' aft2:Array Edge}(hd:Nat.ble (d+1) n=true)(ht:tab.get t=some i)(hj:Nat.ble (j2+1) n=true)(hne2:Nat.beq j2 d=false)(hx:Env.val ((d,.any)::env) x=some vx)(hy:Env.val ((j2,vx)::(d,.any)::env) y=some v)(hv:v.solid=true)(hc:allT v.cells=some ts)
  (hsz:i.size=ts.length)(hpos:0<ts.length)
  (k:TO false P n all rest ((d,.cp ts 0)::(j2,vx)::(d,.any)::env) H K):TO false P n all (⟨some d,.alloc t,ty,pos,aft,none⟩::⟨some j2,.assign x,ty2,pos2,aft2,none⟩::⟨none,.store t (.tmp d) y,ty',pos',aft',none⟩::rest) env H K:=by
 intro φ m a h1 h2 h3 h4
 obtain⟨z,hz1,hz2,_,_⟩:=(hT t i ht).zero
 obtain⟨zl,z0,_⟩:=zero_rel (A:=m.A) (w:=m.w) _ _ hz2
 have hzl:z.cells.size=i.size:=by have:=(hT t i ht).len;simp at zl;omega
 let pv:Value:=.pointer (some ⟨m.w.heap.size,0,none⟩)
 let a0:Act:=a.put (some d) pv
 have hE0:ERel m n ((d,.any)::env) a0.tmps:=h3.put d (Nat.le_of_ble_eq_true hd) (.any _)
 let a1:Act:=a0.put (some j2) (a0.eval x)
 have hE1:ERel m n ((j2,vx)::(d,.any)::env) a1.tmps:=hE0.put j2 (Nat.le_of_ble_eq_true hj) (hE0.val hx)
 have hnj:j2≠d:=fun e=>by rw[e]at hne2;simp at hne2
 obtain⟨g1,g0,g2⟩:=(hE1.val hy).cells hv
 obtain⟨l1,l2⟩:=allT_rel (m:=m) hc
 let w1:=m.w.alloc (.cells z.cells t)
 have hrun1:(execOp a.eval ⟨some d,.alloc t,ty,pos,aft,none⟩).run P m.w= .ok (.value pv) w1:=by
  simp[execOp,Instr.alloc,hz1,newVar,newRow,pv,w1]
 have hrunm:(execOp a0.eval ⟨some j2,.assign x,ty2,pos2,aft2,none⟩).run P w1= .ok (.value (a0.eval x)) w1:=by
  simp[execOp]
 have hc1:∀o,w1.cell? ⟨m.w.heap.size,o,none⟩=z.cells[o]? :=fun o=>World.cell?_alloc_new ..
 have hlen:(a1.eval y).cells.toList.length=z.cells.size:=by simp;omega
 have hsome:∀q,q<(a1.eval y).cells.toList.length->(w1.cell? ⟨m.w.heap.size,0+q,none⟩).isSome=true:=fun q hq=>by rw[Nat.zero_add,hc1,Array.getElem?_eq_getElem (by omega)];rfl
 let w2:=w1.setCells m.w.heap.size 0 (a1.eval y).cells.toList
 have hrun2:(execOp a1.eval ⟨none,.store t (.tmp d) y,ty',pos',aft',none⟩).run P w1= .ok .skip w2:=by
  have hev:a1.eval (.tmp d)=pv:=by
   have hlt:d<a.tmps.size:=by rw[h3.1];exact Nat.le_of_ble_eq_true hd
   simp[a1,a0,Act.put,Act.eval,Array.getElem?_setIfInBounds,hlt,hnj]
  have hst:=run_storeCells_cells (P:=P) m.w.heap.size 0 (a1.eval y).cells.toList 0 w1 (fun q hq=>hsome q hq) (fun q hq=>World.frozen?_alloc_new ..) (fun u hu=>by
   obtain⟨q,hq⟩:=List.getElem?_of_mem hu
   exact g0 q u (by simpa using hq))
  have hne:(a1.eval y).cells.size=i.size:=by omega
  simp[execOp,hev,pv,Instr.storeAt,Instr.sureAddr,storeVar,(hT t i ht).sizeOf,hne,hst,w2]
 obtain⟨e1,e2,e3,e4,e5,e6⟩:=setCells_rest m.w.heap.size (a1.eval y).cells.toList 0 w1
 have kw:Keeps m.w w2:=⟨e1,e2,e3,by show _≤w2.heap.size;rw[e4];simp[w1],fun b hb=>by rw[e5 b (by omega)];exact RowKit.Below.heap_alloc _ _ _ hb⟩
 obtain⟨m',f1,f2,f3,f4,f5⟩:=grow_still' h2 kw (b:=m.w.heap.size) ⟨Nat.le_refl _,by rw[e4];simp[w1]⟩ ts (fun j=>((a1.eval y).cells[j]?).getD undef) (fun j hj=>by
  have hj':j<(a1.eval y).cells.toList.length:=by simp;omega
  have:=World.cell?_setCells_in m.w.heap.size (a1.eval y).cells.toList 0 w1 hsome j hj'
  rw[Nat.zero_add]at this
  rw[show w2.cell? _=_ from this,Array.getElem?_eq_getElem (by simpa using hj')]
  simp) (fun j hj=>by
  rw[Array.getElem?_eq_getElem (by omega)]
  exact g0 j _ (Array.getElem?_eq_getElem (by omega))) (fun j u hu=>by
  have hj:=(List.getElem?_eq_some_iff.1 hu).1
  obtain⟨c,hcc,hr⟩:=l2 j u hu
  rw[Array.getElem?_eq_getElem (by omega)]
  exact hr _ (g2 j c _ hcc (Array.getElem?_eq_getElem (by omega))))
 refine wpListIn_plain rfl fun K' hK=>?_
 unfold Oper.wpIn
 refine⟨fun _ _=>trivial,?_⟩
 rw[semAt_val hrun1 (by intro d e;cases e)]
 simp only[Oper.uponIn]
 refine hK _ _ ?_
 refine wpListIn_plain rfl fun K2 hK2=>?_
 unfold Oper.wpIn
 refine⟨fun _ _=>trivial,?_⟩
 rw[show a.put (some d) pv=a0 from rfl,semAt_val hrunm (by intro d e;cases e)]
 simp only[Oper.uponIn]
 refine hK2 _ _ ?_
 refine wpListIn_plain rfl fun K3 hK3=>?_
 unfold Oper.wpIn
 refine⟨fun _ _=>trivial,?_⟩
 rw[show a0.put (some j2) (a0.eval x)=a1 from rfl,semAt_val hrun2 (by intro d e;cases e)]
 simp only[Oper.uponIn]
 refine hK3 _ _ ?_
 have hE:ERel m' n ((d,.cp ts 0)::(j2,vx)::(d,.any)::env) a1.tmps:=by
  refine⟨hE1.1,fun i v hv=>?_⟩
  by_cases hi:d=i
  ·subst hi
   rw[Env.look_cons_same]at hv
   cases hv
   refine⟨pv,?_,f5⟩
   have hlt:d<a.tmps.size:=by rw[h3.1];exact Nat.le_of_ble_eq_true hd
   simp[a1,a0,Act.put,Array.getElem?_setIfInBounds,hlt,hnj]
  ·rw[Env.look_cons_other _ _ hi]at hv
   exact(hE1.step h2 f2).2 i v hv
 have:=k φ m' a1 (by rw[f4,h1]) f3 hE (by simpa [a1,a0,Act.put]using h4.step h2 f2)
 rw[<-f1]
 exact TO.step' f2 this
end rules
end Go.TL
