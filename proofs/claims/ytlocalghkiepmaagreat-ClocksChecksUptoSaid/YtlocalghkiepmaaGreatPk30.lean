import Derived.Test.YtlocalghkiepmaaGreatPk12
import Derived.Test.YtlocalghkiepmaaGreatPk17
import Derived.Test.YtlocalghkiepmaaGreatPk22
import Derived.Test.YtlocalghkiepmaaGreatPk29
set_option linter.unusedSimpArgs false
set_option linter.unusedVariables false
namespace Go.Proofs.YtlocalghkiepmaaGreat
open Go Go.TL
attribute [local irreducible] TR TO Then InBlock RetK Sound LoopK Kf GG ThenL
def Ex.withArgs:Ex->List Ex->Ex| .mk k o t v n _,l=>.mk k o t v n l
def putL(F:Int->Ex->Ex×Int):Int->List Ex->List Ex×Int
 | k,[]=>([],k)
 | k,a::l=>((if 0≤k then F k a else(a,k)).1::(putL F (if 0≤k then F k a else(a,k)).2 l).1,(putL F (if 0≤k then F k a else(a,k)).2 l).2)
def putE(x:Ex):Nat->Int->Ex->Ex×Int
 | 0,k,e=>(e,k)
 | m+1,k,e=>if k=0 then(x,-1) else(e.withArgs (putL (putE x m) (k-1) e.args).1,(putL (putE x m) (k-1) e.args).2)
theorem flats_cons(a:Ex)(l:List Ex):flats (a::l)=flat a++flats l:=by simp[flats]
theorem flat_mem{e z:Ex}:z∈flat e ↔ z=e\/∃a∈e.args,z∈flat a:=by
 rw[flat_eq,List.mem_cons]
 unfold flats
 constructor
 ·rintro(h|h)
  ·exact .inl h
  ·obtain⟨l,hl,hz⟩:=List.mem_flatten.1 h
   obtain⟨a,ha,rfl⟩:=List.mem_map.1 hl
   exact .inr ⟨a,ha,hz⟩
 ·rintro(h|⟨a,ha,hz⟩)
  ·exact .inl h
  ·exact .inr (List.mem_flatten.2 ⟨_,List.mem_map_of_mem ha,hz⟩)
theorem sub_resT{w:Plc}:∀(m:Nat) (e:Ex),wEx e≤m->∀b,(resT w b e).2=0->∀z∈flat e,z=e\/(resT w true z).2=0
 | 0,e,h=>by have:=wEx_pos e;omega
 | m+1,e,h=>by
   intro b hb z hz
   rcases flat_mem.1 hz with rfl|⟨a,ha,hz⟩
   ·exact .inl rfl
   ·have h3:(heads (e.args.map (resT w true))).2=0:=by
     rw[resT_eq]at hb
     exact Classical.byContradiction fun hh=>by rw[if_pos hh]at hb;exact hh hb
    have h4:=heads_all _ h3 _ (List.mem_map_of_mem ha)
    rcases sub_resT m a (by have:=wEx_arg ha;omega) true h4 z hz with rfl|h5
    ·exact .inr h4
    ·exact .inr h5
theorem ofT_some{p:Prog}{node:I64}{n:Nod}(h0:0≤node.1)(hn:p.nodes[node.1.toNat]?=some n)(e:Ex):ofT p node e=if exprX p.enums e≠0 then([],exprX p.enums e) else resT ⟨p,node,varsL n⟩ false e:=by
 have hl:=(List.getElem?_eq_some_iff.1 hn).1
 unfold ofT
 rw[if_neg (by omega),hn]
def onEq(a b:OnC):Bool:=decide (a.name=b.name) && decide (a.t.1=b.t.1) && decide (a.tag.1=b.tag.1)
theorem onEq_iff(a b:OnC):onEq a b=true ↔ a=b:=by
 obtain⟨n,t,g⟩:=a
 obtain⟨n',t',g'⟩:=b
 simp only[onEq,Bool.and_eq_true,decide_eq_true_eq,OnC.mk.injEq,Subtype.ext_iff,and_assoc]
instance:DecidableEq OnC:=fun a b=>decidable_of_iff _ (onEq_iff a b)
def findD:List Decl->Str->Option Decl
 | [],_=>none
 | d::l,nm=>if d.name=nm then some d else findD l nm
def dclk(vars:List Decl)(nm:Str):List OnC:=((findD vars nm).map Decl.clock).getD []
def onX(vars:List Decl)(nm:Str)(ck:List OnC):Bool:=match findD vars nm with
 | some d=>decide (d.clock=ck)
 | none=>false
theorem findD_look(vars:List Decl)(nm:Str):(findD vars nm).isSome=(lookT vars nm).2/\∀d,findD vars nm=some d->(lookT vars nm).1=d.ty.1:=by
 induction vars with
 | nil=>simp[findD,lookT]
 | cons d l ih=>
   unfold findD lookT
   by_cases h:d.name=nm
   ·simp[h]
   ·simp only[if_neg h];exact ih
theorem findD_mem{vars:List Decl}{nm:Str}{d:Decl}(h:findD vars nm=some d):d∈vars/\d.name=nm:=by
 induction vars with
 | nil=>cases h
 | cons x l ih=>
   unfold findD at h
   by_cases hx:x.name=nm
   ·rw[if_pos hx]at h;cases h;exact⟨by simp,hx⟩
   ·rw[if_neg hx]at h;exact⟨List.mem_cons_of_mem _ (ih h).1,(ih h).2⟩
def onOf(e:Ex):OnC:=⟨e.name,e.t,e.v⟩
def underX(e:Ex)(ck:List OnC)(i:Nat):List OnC:=
 if e.kind.1=8 then ck.dropLast else if e.kind.1=9 then ck++[⟨e.name,e.t,nI i⟩] else ck
def argsG(f:Nat->Ex->Int):Nat->List Ex->Int
 | _,[]=>0
 | i,a::l=>orE (f i a) (argsG f (i+1) l)
def headG(vars:List Decl)(e:Ex)(ck:List OnC):Int:=
 if e.kind.1=2 then(if onX vars e.name ck=true then 0 else 11)
 else if e.kind.1=8 then(if ck.getLast? =some (onOf e)/\onX vars e.name ck.dropLast=true then 0 else 11)
 else if e.kind.1=9 then(if onX vars e.name ck=true then(if ck.length<4 then 0 else 3) else 11)
 else 0
def fitsG(vars:List Decl):Nat->Ex->List OnC->Int
 | 0,_,_=>0
 | m+1,e,ck=>if e.kind.1=1\/e.kind.1=11 then 0 else orE (headG vars e ck) (argsG (fun i a=>fitsG vars m a (underX e ck i)) 0 e.args)
def headR(vars:List Decl)(e:Ex)(ck:List OnC):Int:=
 if e.kind.1=2 then(if dclk vars e.name=ck then 0 else 11)
 else if e.kind.1=8 then(if ck.getLast? =some (onOf e)/\dclk vars e.name=ck.dropLast then 0 else 11)
 else if e.kind.1=9 then(if dclk vars e.name=ck then(if ck.length=4 then 3 else 0) else 11)
 else 0
def fitsR(vars:List Decl):Nat->Ex->List OnC->Int
 | 0,_,_=>0
 | m+1,e,ck=>if e.kind.1=2 then headR vars e ck else orE (headR vars e ck) (if e.kind.1=8 then fitsR vars m (e.args.headD e) ck.dropLast else argsG (fun i a=>fitsR vars m a (underX e ck i)) 0 e.args)
theorem argsG_congr{f g:Nat->Ex->Int}:∀ {l:List Ex} {i:Nat},(∀a∈l,∀j,f j a=g j a)->argsG f i l=argsG g i l
 | [],_,_=>rfl
 | a::l,i,h=>by rw[argsG,argsG,h a (by simp),argsG_congr fun b hb=>h b (by simp[hb])]
def KnownN(vars:List Decl)(e:Ex):Prop:=∀x∈flat e,(x.kind.1=2\/x.kind.1=8\/x.kind.1=9)->(findD vars x.name).isSome=true
theorem args_of{e:Ex}(h:oneX e=0):argsI e.kind.1 e.op.1 e.t.1 e.v.1 e.args.length=true:=by
 unfold oneX at h
 rw[oneI_eq _ _ _ _ _ _ (by omega)]at h
 have hf:formI e.kind.1 e.op.1 e.t.1 e.v.1 e.name e.args.length=true:=by
  cases hq:formI e.kind.1 e.op.1 e.t.1 e.v.1 e.name e.args.length with
  | true=>rfl
  | false=>rw[hq]at h;simp at h;split at h <;> simp at h
 clear h
 unfold formI at hf
 split at hf
 ·cases hf
 rename_i h1
 cases hq:argsI e.kind.1 e.op.1 e.t.1 e.v.1 e.args.length with
 | true=>rfl
 | false=>exact absurd (.inr (.inr hq)) h1
theorem arity_zero{e:Ex}(h:oneX e=0)(hk:e.kind.1=1\/e.kind.1=2\/e.kind.1=11):e.args.length=0:=by
 have ha:=args_of h
 unfold argsI at ha
 rw[if_pos hk]at ha
 simpa using ha
theorem arity_one{e:Ex}(h:oneX e=0)(hk:e.kind.1=8):e.args.length=1:=by
 have ha:=args_of h
 unfold argsI at ha
 rw[hk]at ha
 simp at ha
 omega
theorem onX_dclk{vars:List Decl}{nm:Str}(h:(findD vars nm).isSome=true)(ck:List OnC):(onX vars nm ck=true)=(dclk vars nm=ck):=by
 unfold onX dclk
 cases hf:findD vars nm with
 | none=>rw[hf]at h;cases h
 | some d=>simp
theorem fits_eq(vars:List Decl):∀(m:Nat) (e:Ex),wEx e≤m->(∀x∈flat e,Arity x)->(∀x∈flat e,oneX x=0)->KnownN vars e->∀ck,ck.length≤4->fitsR vars m e ck=fitsG vars m e ck
 | 0,e,h=>by have:=wEx_pos e;omega
 | m+1,e,h=>by
   intro ha ho hk ck hck
   have hself:e∈flat e:=flat_mem.2 (.inl rfl)
   have ih:=fun(a:Ex) (hx:a∈e.args)=>fits_eq vars m a (by have:=wEx_arg hx;omega) (fun x hh=>ha x (flat_sub hx x hh)) (fun x hh=>ho x (flat_sub hx x hh)) (fun x hh=>hk x (flat_sub hx x hh))
   have har:=ha e hself
   have hke:=hk e hself
   have hnil:e.kind.1=1\/e.kind.1=2\/e.kind.1=11->e.args=[]:=fun hkk=>by
    have:=arity_zero (ho e hself) hkk
    exact List.eq_nil_of_length_eq_zero this
   rw[fitsR,fitsG]
   by_cases h1:e.kind.1=1\/e.kind.1=11
   ·have hn:=hnil (by omega)
    rw[if_pos h1,if_neg (by omega),if_neg (by omega),hn]
    have:headR vars e ck=0:=by unfold headR;rw[if_neg (by omega),if_neg (by omega),if_neg (by omega)]
    rw[this];rfl
   rw[if_neg h1]
   by_cases h2:e.kind.1=2
   ·have hn:=hnil (by omega)
    rw[if_pos h2,hn]
    unfold headR headG
    rw[if_pos h2,if_pos h2]
    simp only[onX_dclk (hke (.inl h2)),argsG,orE]
    split <;> rfl
   rw[if_neg h2]
   by_cases h8:e.kind.1=8
   ·have hh:headR vars e ck=headG vars e ck:=by
     unfold headR headG
     rw[if_neg h2,if_neg h2,if_pos h8,if_pos h8]
     simp only[onX_dclk (hke (.inr (.inl h8)))]
    obtain⟨a,hargs⟩:∃a,e.args=[a]:=List.length_eq_one_iff.1 (arity_one (ho e hself) h8)
    rw[if_pos h8,hh,hargs]
    have hu:underX e ck 0=ck.dropLast:=by unfold underX;rw[if_pos h8]
    have:=ih a (by rw[hargs];simp) ck.dropLast (by rw[List.length_dropLast];omega)
    simp only[argsG,List.headD_cons,hu,this]
    unfold orE
    repeat' split
    all_goals first|rfl|simp_all
   ·rw[if_neg h8]
    by_cases h9:e.kind.1=9
    ·have hh:headR vars e ck=headG vars e ck:=by
      unfold headR headG
      rw[if_neg h2,if_neg h2,if_neg h8,if_neg h8,if_pos h9,if_pos h9]
      simp only[onX_dclk (hke (.inr (.inr h9)))]
      by_cases h4:ck.length=4
      ·simp[h4]
      ·have h5:ck.length<4:=by omega
       simp[h4,h5]
     rw[hh]
     by_cases hz:headG vars e ck=0
     ·have hlt:ck.length<4:=by
       unfold headG at hz
       rw[if_neg h2,if_neg h8,if_pos h9]at hz
       split at hz
       ·split at hz
        ·assumption
        ·cases hz
       ·cases hz
      congr 1
      refine argsG_congr fun a hx j=>ih a hx _ ?_
      unfold underX
      rw[if_neg h8,if_pos h9,List.length_append]
      simp;omega
     ·unfold orE;rw[if_neg hz,if_neg hz]
    ·have hh:headR vars e ck=headG vars e ck:=by
      unfold headR headG
      rw[if_neg h2,if_neg h2,if_neg h8,if_neg h8,if_neg h9,if_neg h9]
     rw[hh]
     congr 1
     refine argsG_congr fun a hx j=>ih a hx _ ?_
     unfold underX
     rw[if_neg h8,if_neg h9];exact hck
theorem fitsG_fuel(vars:List Decl):∀(m:Nat) (e:Ex),wEx e≤m->∀(m':Nat),wEx e≤m'->∀ck,fitsG vars m e ck=fitsG vars m' e ck
 | 0,e,h=>by have:=wEx_pos e;omega
 | m+1,e,h=>by
   intro m' h' ck
   obtain⟨j,rfl⟩:∃j,m'=j+1:=⟨m'-1,by have:=wEx_pos e;omega⟩
   rw[fitsG,fitsG]
   split
   ·rfl
   ·congr 1
    exact argsG_congr fun a hx i=>fitsG_fuel vars m a (by have:=wEx_arg hx;omega) j (by have:=wEx_arg hx;omega) _
def fitsX(vars:List Decl)(e:Ex)(ck:List OnC):Int:=fitsG vars (wEx e) e ck
theorem fitsX_eq(vars:List Decl)(e:Ex)(ck:List OnC):fitsX vars e ck=if e.kind.1=1\/e.kind.1=11 then 0 else orE (headG vars e ck) (argsG (fun i a=>fitsX vars a (underX e ck i)) 0 e.args):=by
 have hp:=wEx_pos e
 unfold fitsX
 rw[show fitsG vars (wEx e) e ck=fitsG vars (wEx e-1+1) e ck from by rw[Nat.sub_add_cancel hp],fitsG]
 congr 2
 exact argsG_congr fun a hx i=>fitsG_fuel vars _ a (by have:=wEx_arg hx;omega) _ (Nat.le_refl _) _
def isVar(e:Ex):Bool:=decide (e.kind.1=2\/e.kind.1=8\/e.kind.1=9)
def addN(l:List Str)(e:Ex):List Str:=if isVar e=true/\e.name ∉ l then l++[e.name] else l
def namesX(l:List Str)(e:Ex):List Str:=(flat e).foldl addN l
def fitsP(p:Prog)(node:I64)(e:Ex)(ck:List OnC):Int:=
 if node.1<0\/(p.nodes.length:Int)≤node.1 then 2 else if exprX p.enums e≠0 then exprX p.enums e else
 match p.nodes[node.1.toNat]? with
 | some n=>if firstE (fun s=>if(findD (varsL n) s).isSome=true then(0:Int) else 6) (namesX [] e)≠0 then 6 else if 4<ck.length then 3 else fitsX (varsL n) e ck
 | none=>2
def clkP(p:Prog)(node:I64)(nm:Str):List OnC×Int:=
 if node.1<0\/(p.nodes.length:Int)≤node.1 then([],2) else
 match p.nodes[node.1.toNat]? with
 | some n=>(match findD (varsL n) nm with|some d=>(d.clock,0)|none=>([],6))
 | none=>([],2)
def clkOk(vars:List Decl):List OnC->List OnC->Bool
 | _,[]=>true
 | pre,o::l=>(match findD vars o.name with|some x=>decide (x.ty.1=o.t.1) && decide (x.clock=pre)|none=>false) && clkOk vars (pre++[o]) l
def declsOk(vars l:List Decl):Bool:=l.all fun d=>clkOk vars [] d.clock
def eqClk(vars:List Decl)(u:Equ):Int:=
 if u.left.all (fun s=>onX vars s (dclk vars (u.left.headD [])))=true then fitsX vars u.right (dclk vars (u.left.headD [])) else 11
def nodeK(n:Nod):Int×Int:=
 if declsOk (varsL n) n.locals=false then(-1,11) else if firstE (eqClk (varsL n)) n.eqs≠0 then firstI (eqClk (varsL n)) n.eqs else
 if firstE (fun e=>fitsX (varsL n) e []) (n.assume++n.ensure)≠0 then(-1,firstE (fun e=>fitsX (varsL n) e []) (n.assume++n.ensure)) else(0,0)
def plainP(p:Prog):Bool:=p.nodes.all fun n=>decide (n.autos.length=0)
def clkNods:Nat->List Nod->(Int×Int)×Int
 | _,[]=>((0,0),0)
 | i,n::l=>if(nodeK n).2=0 then clkNods (i+1) l else((i,(nodeK n).1),(nodeK n).2)
def clocksX(p:Prog):(Int×Int)×Int:=if plainP p=false then((-1,-1),2) else if(typesX p).2≠0 then typesX p else clkNods 0 p.nodes
theorem typesX_parts{p:Prog}(h:(typesX p).2=0):(scopeX p).2=0/\(shapeX p).2=0/\(tyNods p p.nodes.zipIdx).2=0:=by
 have hs:(scopeX p).2=0:=Classical.byContradiction fun hh=>by
  unfold typesX at h
  rw[if_pos hh]at h;exact hh h
 refine⟨hs,Classical.byContradiction fun hh=>?_,?_⟩
 ·unfold scopeX at hs
  rw[if_pos hh]at hs;exact hh hs
 ·unfold typesX at h
  rw[if_neg (by simp[hs])]at h;exact h
structure ShapeN (es:List En) (n:Nod):Prop where
 ports:∀d∈n.ins++n.outs,d.clock=[]
 locals:∀d∈n.locals,d.clock.length≤4
 eqs:∀u∈n.eqs,u.left≠ []/\exprX es u.right=0
theorem declE_ok{es:List En}{port:Bool}{d:Decl}(h:declE es port d=0):(port=true->d.clock=[])/\d.clock.length≤4:=by
 unfold declE at h
 obtain⟨_,h⟩:=orE_zero h
 obtain⟨_,h⟩:=orE_zero h
 obtain⟨h1,h⟩:=orE_zero h
 obtain⟨h2,_⟩:=orE_zero h
 refine⟨fun hp=>?_,?_⟩
 ·by_cases hc:d.clock.length=0
  ·exact List.eq_nil_of_length_eq_zero hc
  ·rw[if_pos ⟨hp,hc⟩]at h1;cases h1
 ·by_cases hc:d.clock.length≤4
  ·exact hc
  ·rw[if_neg hc]at h2;cases h2
theorem shapeN_of{p:Prog}(h:(shapeX p).2=0):∀n∈p.nodes,ShapeN p.enums n:=fun n hn=>by
 have h1:=shape_nodes h n hn
 unfold nodeX at h1
 have hh:headE p.enums n=0:=Classical.byContradiction fun hc=>by rw[if_pos hc]at h1;exact hc h1
 rw[if_neg (by simp[hh])]at h1
 have he:firstE (equE p.enums) n.eqs=0:=Classical.byContradiction fun hc=>by rw[if_pos hc,firstI_snd]at h1;exact hc h1
 unfold headE at hh
 obtain⟨_,hh⟩:=orE_zero hh
 obtain⟨_,hh⟩:=orE_zero hh
 obtain⟨_,hh⟩:=orE_zero hh
 obtain⟨i1,hh⟩:=orE_zero hh
 obtain⟨i2,i3⟩:=orE_zero hh
 refine⟨fun d hd=>?_,fun d hd=>(declE_ok (firstE_zero i3 d hd)).2,fun u hu=>?_⟩
 ·rcases List.mem_append.1 hd with hd|hd
  ·exact(declE_ok (firstE_zero i1 d hd)).1 rfl
  ·exact(declE_ok (firstE_zero i2 d hd)).1 rfl
 ·have h2:=firstE_zero he u hu
  refine⟨fun hc=>?_,equE_ex h2⟩
  unfold equE at h2
  obtain⟨h3,_⟩:=orE_zero h2
  rw[hc]at h3;simp at h3
theorem clk_len{es:List En}{n:Nod}(h:ShapeN es n):∀d∈varsL n,d.clock.length≤4:=fun d hd=>by
 simp only[varsL,List.append_nil,List.mem_append]at hd
 rcases hd with hd|hd|hd
 ·rw[h.ports d (by simp[hd])];simp
 ·rw[h.ports d (by simp[hd])];simp
 ·exact h.locals d hd
theorem kind_known{w:Plc}{z:Ex}{b:Bool}(h:(resT w b z).2=0)(hv:z.kind.1=2\/z.kind.1=8\/z.kind.1=9):(findD w.env z.name).isSome=true:=by
 rw[(findD_look w.env z.name).1]
 rw[resT_eq]at h
 have h0:¬(heads (z.args.map (resT w true))).2≠0:=fun hh=>by rw[if_pos hh]at h;exact hh h
 rw[if_neg h0]at h
 unfold kindT at h
 rw[if_neg (by omega),if_neg (by omega)]at h
 rcases hv with hv|hv
 ·rw[if_pos hv]at h
  cases hl:(lookT w.env z.name).2 with
  | true=>rfl
  | false=>rw[hl]at h;simp at h
 ·rw[if_neg (by omega),if_neg (by omega),if_neg (by omega),if_neg (by omega),if_pos hv]at h
  have hc:¬clockT w.env z.name z.t.1≠0:=fun hh=>by rw[if_pos hh]at h;exact hh h
  unfold clockT at hc
  cases hl:(lookT w.env z.name).2 with
  | true=>rfl
  | false=>rw[hl]at hc;simp at hc
theorem known_of{w:Plc}{e:Ex}{b:Bool}(h:(resT w b e).2=0):KnownN w.env e:=fun z hz hv=>by
 rcases sub_resT _ e (Nat.le_refl _) b h z hz with rfl|h2
 ·exact kind_known h hv
 ·exact kind_known h2 hv
theorem nI_val{k:Nat}(h:(k:Int)≤9223372036854775807):(nI k).1=k:=by unfold nI;rw[dif_pos h]
theorem eq_known{p:Prog}(h:(typesX p).2=0){k:Nat}(hk:k<p.nodes.length)(hk63:(k:Int)≤9223372036854775807){u:Equ}(hu:u∈p.nodes[k].eqs):KnownN (varsL p.nodes[k]) u.right/\exprX p.enums u.right=0:=by
 have h1:=(rights h hk hk63 hu).1
 have hnv:=nI_val hk63
 rw[ofT_some (n:=p.nodes[k]) (by omega) (by rw[hnv,Int.toNat_natCast];exact List.getElem?_eq_getElem hk)]at h1
 have hx:exprX p.enums u.right=0:=Classical.byContradiction fun hh=>by rw[if_pos hh]at h1;exact hh h1
 rw[if_neg (by simp[hx])]at h1
 exact⟨known_of h1,hx⟩
theorem one_flat{es:List En}{e:Ex}(h:exprX es e=0):∀x∈flat e,oneX x=0:=by
 unfold exprX at h
 split at h
 ·rename_i hc
  unfold checkX at hc
  split at hc
  ·cases hc
  ·exact firstE_zero hc
 ·rename_i hc;exact absurd h hc
def withinX(a b:List OnC):Bool:=decide (b.length≤a.length/\a.take b.length=b)
theorem within_nil(a:List OnC):withinX a []=true:=by simp[withinX]
abbrev onV (o:OnC):Value:=.agg #[str o.name,.int .i64 o.t.1,.int .i64 o.tag.1]
theorem cellsOn:Tryz.prog.cellsOf 57=3:=by kernel_rfl
theorem keyTyOn:Tryz.prog.keyType 57=true:=by kernel_rfl
theorem wf64(t:I64):(Lit.int .i64 t.1).wf=true:=by
 simp only[Lit.wf,Bool.and_eq_true,decide_eq_true_eq]
 exact⟨t.2.1,t.2.2⟩
theorem keyLitsOn(N:Nat){o:OnC}(hs:(⟨o.name.toArray⟩:ByteArray).size≤maxLen):
  (Tryz.prog.keyLits (N+1+1) 57 [str o.name,.int .i64 o.t.1,.int .i64 o.tag.1])=some [.string o.name,.int .i64 o.t.1,.int .i64 o.tag.1]:=by
 have e1:∀c,Tryz.prog.keyLits (N+1) 3 [c]=(match c with| .int q' n=>if q'= .i64/\(Lit.int .i64 n).wf=true then some [.int .i64 n] else none|_=>none):=fun c=>by
  unfold Program.keyLits
  simp only[Tryz.underlying3]
  cases c <;> rfl
 have e2:Tryz.prog.keyLits (N+1) 9 [str o.name]=some [.string o.name]:=by
  unfold Program.keyLits
  simp only[Tryz.underlying9]
  rw[if_pos hs]
 unfold Program.keyLits
 simp only[Tryz.underlying57,cellsOn]
 simp only[List.length_cons,List.length_nil,List.mapM_cons,List.mapM_nil,cells3,cells4,List.drop_zero,List.take,List.drop,e1,e2,wf64]
 simp
theorem keyOn{o:OnC}(h:o.name.length≤1000000000):keyOf Tryz.prog 57 (onV o)=some (.string (keyBytes [.string o.name,.int .i64 o.t.1,.int .i64 o.tag.1])):=by
 have hs:(⟨o.name.toArray⟩:ByteArray).size≤maxLen:=by
  show o.name.toArray.size≤maxLen
  simp[maxLen];omega
 have h5:(onV o).formed Tryz.prog 57=true:=by
  simp only[onV,Value.formed,Tryz.underlying57,cellsOn];rfl
 obtain⟨N,hN⟩:=typesN
 rw[keyOf,Tryz.underlying57]
 simp only[keyTyOn,h5,hN,Value.cells,Bool.and_self,if_true,keyLitsOn N hs,Option.map_some]
section
variable {n:Nat}{env:Env}{K:TK}{all:Array Oper}{rest:List Oper}{d:Nat}{ty:TypeId}{pos:String}{aft:Array Edge}{H:Heap}{q:Bool}
theorem on_val{o:OnC}{m:M}{v:Value}(h:SRel m (.t (onT o)) v):v=onV o:=by
 cases h with
 | t _ _ h=>
   cases h with
   | ag _ arr hs h1 h=>
     obtain⟨l⟩:=arr
     match l,hs with
     | [a,b,c],_=>
       have ha:=h 0 _ a rfl rfl
       have hb:=h 1 _ b rfl rfl
       have hc:=h 2 _ c rfl rfl
       cases ha;cases hb;cases hc
       rfl
theorem run_eqOn(w:World){a b:OnC}(ha:a.name.length≤1000000000)(hb:b.name.length≤1000000000):(Op.equal 57 (onV a) (onV b)).run Tryz.prog w= .ok (decide (a=b)) w:=by
 obtain⟨N,hN⟩:=typesN
 have la:=keyLitsOn N (o:=a) (by show a.name.toArray.size≤maxLen;simp[maxLen];omega)
 have lb:=keyLitsOn N (o:=b) (by show b.name.toArray.size≤maxLen;simp[maxLen];omega)
 obtain⟨r,hr,hrr⟩:=run_equal_deep (P:=Tryz.prog) w (m:=3) (Nat.le_of_ble_eq_true rfl) (by kernel_rfl) (by rw[Tryz.underlying57]) (keyOn ha) (keyOn hb)
 have hrd:r=decide (a=b):=by
  by_cases h:a=b
  ·rw[decide_eq_true h];exact hrr.2 (by rw[h])
  ·rw[decide_eq_false h]
   cases hb:r with
   | false=>rfl
   | true=>
     exfalso
     have:=hrr.1 hb
     simp only[Lit.string.injEq]at this
     have:=keyLits_inj la lb this
     simp only[List.cons.injEq,Lit.string.injEq,Lit.int.injEq,true_and,and_true]at this
     obtain⟨h1,h2,h3⟩:=this
     exact h ((onEq_iff a b).1 (by simp[onEq,h1,h2,h3]))
 rw[hr,hrd]
theorem TO.neOn{t':TypeId}{x y:Operand}{a b:OnC}(hd:Nat.ble (d+1) n=true)(hx:env.val x=some (.t (onT a)))(hy:env.val y=some (.t (onT b)))(ha:a.name.length≤1000000000)(hb:b.name.length≤1000000000)
  (k:TO q Tryz.prog n all rest ((d,.b (!decide (a=b)))::env) H K):TO q Tryz.prog n all (⟨some d,.binOp .neq 57 x y t',ty,pos,aft,none⟩::rest) env H K:=
 TO.op hd (fun m ac h1 h2 h3=>⟨.bool (!decide (a=b)),fun w' hw'=>by
  have e1:=on_val (h3.val hx)
  have e2:=on_val (h3.val hy)
  have hg:Tryz.prog.eqGuardType Tryz.prog.depth 57=false:=by kernel_rfl
  simp[execOp,e1,e2,eqGuard,hg,Go.binOp,run_eqOn w' ha hb],.t _ _ (.v _)⟩) k
theorem TO.neOnV{t':TypeId}{x y:Operand}{a b:OnC}{v:Bool}(hd:Nat.ble (d+1) n=true)(hx:env.val x=some (.t (onT a)))(hy:env.val y=some (.t (onT b)))(ha:a.name.length≤1000000000)(hb:b.name.length≤1000000000)(hv:(!decide (a=b))=v)
  (k:TO q Tryz.prog n all rest ((d,.b v)::env) H K):TO q Tryz.prog n all (⟨some d,.binOp .neq 57 x y t',ty,pos,aft,none⟩::rest) env H K:=by
 subst hv;exact TO.neOn hd hx hy ha hb k
end
theorem rg{n:Nat}{env0 envF:Env}{H0:Heap}{K:TK}{id':Nat}{l:List Oper}(t:List SV)
  (hp:Prem Tryz.prog n l.toArray (fullE l.toArray t env0) l (t.map fun v=>(v,false)) [H0])(hK:K .normal envF H0)
  (hB:(Nat.beq t.length l.length && mixB l.toArray (t.map fun _=>false))=true:=by dsimp only[List.map,List.length];decide +kernel)(hE:forceL (fullE l.toArray t env0)=some envF:=by exact rfl):
  TR Tryz.prog n (.region id' l.toArray true) env0 H0 K:=by
 simp only[Bool.and_eq_true]at hB
 have e1:(t.map fun v=>(v,false)).map (·.1)=t:=by rw[List.map_map];exact List.map_id t
 have e2:(t.map fun v=>(v,false)).map (·.2)=t.map fun _=>false:=by rw[List.map_map];rfl
 have e3:(t.map fun _=>false).filter id=[]:=by
  rw[List.filter_map];simp
 exact TR.regionM (t.map fun v=>(v,false)) [H0] hmix (by rw[e2];exact hB.2) rfl (by rw[e1];exact hp) (by rw[e2,e3];rfl) (by rw[e1];exact hE) hK
theorem wbf{G Q1 Q2:Prop}{f:FuncId}{cargs:List SV}{b:Bool}(hs:Pure Tryz.prog f cargs (.t (.v (.bool b))))(k1:Q1)(k2:Q2)(h:Pure Tryz.prog f cargs (.t (.v (.bool b)))->Hold Q1->Hold Q2->G:=by
  intro hs k1 k2
  first
  | (apply Go.TL.TO.callBb hs;exact rfl;exact rfl;exact rfl;(focus ((repeat' (first|exact trivial|exact Go.TL.LeB.t _|exact Go.TL.LeB.cp _ _|exact Go.TL.LeB.fn0 _|exact Go.TL.LeB.any _|refine And.intro ?_ ?_|refine Go.TL.LeB.tree rfl ?_|exact Go.TL.TLe.refl _|exact Go.TL.TLe.nil _|refine Go.TL.TLe.ags ?_|fail));done));exact k1.p;exact k2.p)
  | fail):G:=h hs ⟨k1⟩ ⟨k2⟩
abbrev onsT (l:List OnC):T:=.sl 3 (l.map onT)
def SmallK(l:List OnC):Prop:=l.length≤100000000/\∀o∈l,o.name.length≤1000000000
theorem SmallK.nil:SmallK []:=⟨by simp,by simp⟩
theorem SmallK.take{l:List OnC}(h:SmallK l)(k:Nat):SmallK (l.take k):=⟨by have:=h.1;simp;omega,fun o ho=>h.2 o (List.mem_of_mem_take ho)⟩
theorem equalOn_sound(a b:List OnC)(ha:SmallK a)(hb:SmallK b):Pure Tryz.prog 60 [.t (onsT a),.t (onsT b)] (.b (decide (a=b))):=by
 have hma:(a.map onT).length=a.length:=List.length_map _
 have hmb:(b.map onT).length=b.length:=List.length_map _
 have hla:=ha.1
 by_cases hl:a.length=b.length
 ·refine Sound.of tabOk Tryz.func60 (by kernel_rfl) rfl rfl ?_
  repeat' (first|refine wk ?_|exact wkc|intro hc|refine wk2 ?_ ?_|fail|fail)
  all_goals try(exfalso;omega)
  refine TR.loopN a.length (fun k=>a.take k=b.take k) (fun k=>[(0,.t (onsT a)),(1,.t (onsT b)),(12,.i (a.map onT).length),(13,.i k)]) (fun _=>[]) rfl (fun k hlt hk=>?_) (fun hk=>?_)
  ·have hx:=at_map onT hlt
   have hy:=at_map onT (l:=b) (show k<b.length by omega)
   have h1:=take_at hlt
   have h2:=take_at (l:=b) (show k<b.length by omega)
   have hu:=ha.2 _ (List.getElem_mem hlt)
   have hv:=hb.2 _ (List.getElem_mem (show k<b.length by omega))
   have hne:a[k]≠b[k]'(by omega)->a≠b:=fun h e=>h (by subst e;rfl)
   generalize a[k]=u at*
   generalize b[k]'(by omega)=v at*
   repeat' (first|refine wk ?_|exact wkc|intro hc|refine wk2 ?_ ?_|(apply TO.neOn;exact rfl;exact rfl;exact rfl;assumption;assumption)|fail)
   ·rw[decide_eq_false (hne (by simpa using hc))];exact wkr
   ·refine LoopK.nextN hlt ?_
    rw[h1,h2,hk,show u=v by simpa using hc]
  ·rw[List.take_length,hl,List.take_length]at hk
   rw[decide_eq_true hk]
   repeat' (first|refine wk ?_|exact wkc|intro hc|refine wk2 ?_ ?_|fail|fail)
   exact wkr
 ·rw[decide_eq_false (fun e=>hl (by rw[e]))]
  refine Sound.of tabOk Tryz.func60 (by kernel_rfl) rfl rfl ?_
  repeat' (first|refine wk ?_|exact wkc|intro hc|refine wk2 ?_ ?_|fail|fail)
  all_goals first
   | exact wkr
   | (exfalso;omega)
theorem sameK_sound(a b:List OnC)(ha:SmallK a)(hb:SmallK b):Pure Tryz.prog 23 [.t (onsT a),.t (onsT b)] (.b (decide (a=b))):=by
 have hs:=equalOn_sound a b ha hb
 generalize decide (a=b)=z at*
 refine Sound.of tabOk Tryz.func23 (by kernel_rfl) rfl rfl ?_
 repeat' (first|refine wk ?_|exact wkc|intro hc|refine wk2 ?_ ?_|refine wv hs ?_|fail)
 exact wkr
theorem sameKR_sound(a b:List OnC)(ha:SmallK a)(hb:SmallK b):Pure Tryz.prog 24 [.t (onsT a),.t (onsT b)] (.b (decide (a=b))):=by
 have hma:(a.map onT).length=a.length:=List.length_map _
 have hmb:(b.map onT).length=b.length:=List.length_map _
 have hla:=ha.1
 by_cases hl:a.length=b.length
 ·refine Sound.of tabOk Tryz.func24 (by kernel_rfl) rfl rfl ?_
  repeat' (first|refine wk ?_|exact wkc|intro hc|refine wk2 ?_ ?_|fail|fail)
  all_goals try(exfalso;omega)
  refine TR.loopN a.length (fun k=>a.take k=b.take k) (fun k=>[(0,.t (onsT a)),(1,.t (onsT b)),(5,.i k)]) (fun _=>[]) rfl (fun k hlt hk=>?_) (fun hk=>?_)
  ·have hx:=at_map onT hlt
   have hy:=at_map onT (l:=b) (show k<b.length by omega)
   have h1:=take_at hlt
   have h2:=take_at (l:=b) (show k<b.length by omega)
   have hu:=ha.2 _ (List.getElem_mem hlt)
   have hv:=hb.2 _ (List.getElem_mem (show k<b.length by omega))
   have hne:a[k]≠b[k]'(by omega)->a≠b:=fun h e=>h (by subst e;rfl)
   generalize a[k]=u at*
   generalize b[k]'(by omega)=v at*
   repeat' (first|refine wk ?_|exact wkc|intro hc|refine wk2 ?_ ?_|(apply TO.neOn;exact rfl;exact rfl;exact rfl;assumption;assumption)|fail)
   ·rw[decide_eq_false (hne (by simpa using hc))];exact wkr
   ·refine LoopK.nextN hlt ?_
    rw[h1,h2,hk,show u=v by simpa using hc]
  ·rw[List.take_length,hl,List.take_length]at hk
   rw[decide_eq_true hk]
   repeat' (first|refine wk ?_|exact wkc|intro hc|refine wk2 ?_ ?_|fail|fail)
   exact wkr
 ·rw[decide_eq_false (fun e=>hl (by rw[e]))]
  refine Sound.of tabOk Tryz.func24 (by kernel_rfl) rfl rfl ?_
  repeat' (first|refine wk ?_|exact wkc|intro hc|refine wk2 ?_ ?_|fail|fail)
  all_goals first
   | exact wkr
   | (exfalso;omega)
theorem within_sound(a b:List OnC)(ha:SmallK a)(hb:SmallK b):Pure Tryz.prog 25 [.t (onsT a),.t (onsT b)] (.b (withinX a b)):=by
 have hma:(a.map onT).length=a.length:=List.length_map _
 have hmb:(b.map onT).length=b.length:=List.length_map _
 have hs:=sameK_sound (a.take b.length) b (ha.take _) hb
 rw[show onsT (a.take b.length)= .sl 3 ((a.map onT).take b.length) by rw[onsT,List.map_take]]at hs
 unfold withinX
 by_cases h:b.length≤a.length
 ·rw[show decide (b.length≤a.length/\a.take b.length=b)=decide (a.take b.length=b) by simp[h]]
  generalize decide (a.take b.length=b)=z at*
  rw[<-hmb]at hs
  refine Sound.of tabOk Tryz.func25 (by kernel_rfl) rfl rfl ?_
  repeat' (first|refine wk ?_|exact wkc|intro hc|refine wk2 ?_ ?_|refine wv hs ?_|fail)
  all_goals first
   | exact wkr
   | (exfalso;omega)
 ·rw[decide_eq_false (fun hh=>h hh.1)]
  refine Sound.of tabOk Tryz.func25 (by kernel_rfl) rfl rfl ?_
  repeat' (first|refine wk ?_|exact wkc|intro hc|refine wk2 ?_ ?_|fail|fail)
  all_goals first
   | exact wkr
   | (exfalso;omega)
def noD:Decl:=⟨[],⟨0,by decide⟩,[]⟩
def findZ(vars:List Decl)(nm:Str):Decl:=(findD vars nm).getD noD
theorem findZ_clock(vars:List Decl)(nm:Str):(findZ vars nm).clock=dclk vars nm:=by
 unfold findZ dclk
 cases findD vars nm <;> rfl
theorem findD_idx(nm:Str):∀(l:List Decl),(idxI (fun d=>d.name == nm) l= -1/\findD l nm=none)\/∃k:Nat,∃h:k<l.length,idxI (fun d=>d.name == nm) l=k/\findD l nm=some l[k]
 | []=>.inl ⟨rfl,rfl⟩
 | d::l=>by
   unfold idxI findD
   by_cases hd:d.name=nm
   ·rw[if_pos hd,if_pos (by simpa using hd)]
    exact .inr ⟨0,by simp,rfl,rfl⟩
   ·rw[if_neg hd,if_neg (by simpa using hd)]
    rcases findD_idx nm l with ⟨h1,h2⟩|⟨k,hk,h1,h2⟩
    ·rw[h1,h2];exact .inl ⟨rfl,rfl⟩
    ·rw[h1,h2,if_neg (by omega)]
     exact .inr ⟨k+1,by simpa using hk,by omega,rfl⟩
theorem findD_append(nm:Str):∀(a b:List Decl),findD (a++b) nm=match findD a nm with|some d=>some d|none=>findD b nm
 | [],b=>rfl
 | x::a,b=>by
   rw[List.cons_append,findD,findD,findD_append nm a b]
   split <;> rfl
theorem findD_at{vars:List Decl}{nm:Str}{k:Nat}(hk:k<vars.length)(h:findD (vars.take k) nm=none):(vars[k].name=nm->findD vars nm=some vars[k])/\(vars[k].name≠nm->findD (vars.take (k+1)) nm=none):=by
 refine⟨fun e=>?_,fun e=>?_⟩
 ·conv=>lhs;rw[<-List.take_append_drop k vars]
  rw[findD_append,h,List.drop_eq_getElem_cons hk,findD,if_pos e]
 ·rw[List.take_succ_eq_append_getElem hk,findD_append,h,findD,if_neg e];rfl
abbrev chkC (vars:List Decl):List T:=[declsT vars]
theorem findNamed_sound(d:Decl)(nm:Str):Pure Tryz.prog 90 [.t (declT d),.cp [.s nm] 0] (.b (d.name == nm)):=by
 have hd:declT d= .ag [.s d.name,T.n d.ty,.sl 3 (d.clock.map onT)]:=rfl
 rw[hd]
 refine Sound.of tabOk Tryz.func90 (by kernel_rfl) rfl rfl ?_
 repeat' (first|refine wkt ?_|refine wk ?_|exact wkc|intro hc|refine wk2 ?_ ?_|fail)
 all_goals try(refine RetK.pure rfl ?_ rfl;exact Le.of_eq (by simp_all [pack,declT] <;> omega))
theorem findK_sound(vars:List Decl)(hl:vars.length≤1000000000)(nm:Str):Pure Tryz.prog 53 [.t (.ag (chkC vars)),.s nm] (.tup [.t (declT (findZ vars nm)),.b (findD vars nm).isSome]):=by
 have hs:=idxDecl_sound 90 [.cp [.s nm] 0] rfl (fun d=>d.name == nm) vars hl (fun d=>findNamed_sound d nm)
 have hml:(vars.map declT).length=vars.length:=List.length_map _
 unfold findZ
 rcases findD_idx nm vars with ⟨h1,h2⟩|⟨k,hk,h1,h2⟩
 ·rw[h1]at hs
  rw[h2]
  refine Sound.of tabOk Tryz.func53 (by kernel_rfl) rfl rfl ?_
  repeat' (first|refine wkt ?_|refine wka ?_|refine wk ?_|exact wkc|intro hc|refine wk2 ?_ ?_|(apply TO.callV hs;exact rfl;exact rfl;exact rfl;exact Les.refl _;exact rfl;exact rfl)|fail)
  exact wkr
 ·rw[h1]at hs
  rw[h2]
  have hx:=at_decl hk
  generalize vars[k]=d at*
  unfold declC at hx
  refine Sound.of tabOk Tryz.func53 (by kernel_rfl) rfl rfl ?_
  repeat' (first|refine wkt ?_|refine wka ?_|refine wk ?_|exact wkc|intro hc|refine wk2 ?_ ?_|(apply TO.callV hs;exact rfl;exact rfl;exact rfl;exact Les.refl _;exact rfl;exact rfl)|fail)
  exact wkr
theorem findKR_sound(vars:List Decl)(hl:vars.length≤1000000000)(nm:Str):Pure Tryz.prog 57 [.t (declsT vars),.s nm] (.tup [.t (declT (findZ vars nm)),.b (findD vars nm).isSome]):=by
 have hml:(vars.map declT).length=vars.length:=List.length_map _
 unfold findZ
 refine Sound.of tabOk Tryz.func57 (by kernel_rfl) rfl rfl ?_
 repeat' (first|refine wkt ?_|refine wk ?_|exact wkc|intro hc|refine wk2 ?_ ?_|fail)
 refine TR.loopN vars.length (fun k=>findD (vars.take k) nm=none) (fun k=>[(0,.t (declsT vars)),(1,.s nm),(4,.ref 0 0),(6,.i k)]) (fun k=>[.cells [.s [],.i 0,.t (.v (.slice none 0 0))]]) rfl (fun k hlt ha=>?_) (fun ha=>?_)
 ·have hx:=at_decl hlt
  have g:=findD_at hlt ha
  generalize vars[k]=d at*
  unfold declC at hx
  repeat' (first|refine wkt ?_|refine wk ?_|exact wkc|intro hc|refine wk2 ?_ ?_|fail)
  ·rw[g.1 hc]
   exact wkr
  ·exact LoopK.nextN hlt (g.2 hc)
 ·rw[List.take_length]at ha
  rw[ha]
  repeat' (first|refine wkt ?_|refine wk ?_|exact wkc|intro hc|refine wk2 ?_ ?_|fail)
  exact wkr
theorem on_sound(vars:List Decl)(hl:vars.length≤1000000000)(hk:∀d∈vars,SmallK d.clock)(nm:Str)(ck:List OnC)(hck:SmallK ck):Pure Tryz.prog 92 [.t (.ag (chkC vars)),.s nm,.t (onsT ck)] (.b (onX vars nm ck)):=by
 have hf:=findK_sound vars hl nm
 unfold findZ at hf
 unfold onX
 cases hd:findD vars nm with
 | none=>
   rw[hd]at hf
   refine Sound.of tabOk Tryz.func92 (by kernel_rfl) rfl rfl ?_
   repeat' (first|refine wkt ?_|refine wka ?_|refine wk ?_|exact wkc|intro hc|refine wk2 ?_ ?_|refine wv hf ?_|fail)
   exact wkr
 | some d=>
   rw[hd]at hf
   have hs:=sameK_sound d.clock ck (hk d (findD_mem hd).1) hck
   simp only[Option.getD_some,Option.isSome_some]at hf⊢
   have hdT:declT d= .ag [.s d.name,T.n d.ty,onsT d.clock]:=rfl
   rw[hdT]at hf
   generalize decide (d.clock=ck)=z at*
   refine Sound.of tabOk Tryz.func92 (by kernel_rfl) rfl rfl ?_
   repeat' (first|refine wkt ?_|refine wka ?_|refine wk ?_|exact wkc|intro hc|refine wk2 ?_ ?_|refine wv hf ?_|refine wv hs ?_|fail)
   exact wkr
end Go.Proofs.YtlocalghkiepmaaGreat
