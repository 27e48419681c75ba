import Derived.Test.YtcbhlhmebbkgnaaGreatPk9
import Derived.Test.YtcbhlhmebbkgnaaGreatPk13
import Derived.Test.YtcbhlhmebbkgnaaGreatPk15
import Derived.Test.YtcbhlhmebbkgnaaGreatPk17
import Derived.Test.YtcbhlhmebbkgnaaGreatPk24
import Derived.Test.YtcbhlhmebbkgnaaGreatPk25
set_option linter.unusedSimpArgs false
set_option linter.unusedVariables false
namespace Go.Proofs.YtcbhlhmebbkgnaaGreat
open Go Go.TL
attribute [local irreducible] TR TO Then zaw RetK Sound zab Kf GG zaZ
section rules
variable {P:Program}{n:Nat}{env:Env}{H:Heap}{K:TK}{all:Array Oper}{rest:List Oper}{d:Nat}{ty:TypeId}{pos:String}{aft:Array Edge}
theorem TO.zrd{cargs:List SV}{kt vt:TypeId}{es:List (Value×T)}{f:Operand}{fid:FuncId}{caps:List SV}{args:Array Operand}{ts:Array TypeId}{vs:List SV}
  (hs:Sound P fid cargs [] fun r H'=>r= .ret (.mp 0)/\H'=[.map kt vt es])(hd:Nat.ble (d+1) n=true)
  (hf:env.val f=some (.fn fid caps))(ha:env.vals args.toList=some vs)(hl:Les (vs++caps) cargs)(hu:unders 0 cargs=true)
  (k:TO false P n all rest ((d,.mp H.length)::env) (H++[.map kt vt es]) K):
  TO false P n all (⟨some d,.call { callee:=.value f,args:=args,argTypes:=ts },ty,pos,aft,none⟩::rest) env H K:=
 TO.zrH [] hs hd hf ha (by rw[zbC (N:=0) (fun j hj=>by omega) _ hu];exact hl) hu (zgP H) (by simp[SV.ren,names]) (by
  simp only[patch,List.map_cons,List.map_nil,Blk.ren]) k
end rules
abbrev MisS (l:List Str)(e:Ex):Prop:=Sound Tryz.prog 45 [.mp 0,.t (.ag (exC e))] [setB l] (fun r H'=>r= .ret (.b (misX l e))/\H'=[setB l])
structure ExSt (e:Ex):Prop where
 w:wEx e≤1000000000
 names:∀x∈flat e,x.name.length≤1000000000
 arrow:∀x∈flat e,x.kind.1=6->x.args≠ []
theorem zjt{e x:Ex}(hx:x∈flat e):∀y∈flat x,y∈flat e:=by
 suffices h:∀(m:Nat) (e:Ex),wEx e≤m->∀x∈flat e,∀y∈flat x,y∈flat e from h _ e (Nat.le_refl _) x hx
 intro m
 induction m with
 | zero=>intro e he;have:=zaI e;omega
 | succ m ih=>
   intro e he x hx y hy
   rw[za2]at hx⊢
   rcases List.mem_cons.1 hx with rfl|hx
   ·rw[<-za2];exact hy
   ·refine List.mem_cons_of_mem _ ?_
    unfold flats at hx⊢
    obtain⟨z,hz,hxz⟩:=List.mem_flatten.1 hx
    obtain⟨q,hq,rfl⟩:=List.mem_map.1 hz
    exact List.mem_flatten.2 ⟨_,List.mem_map_of_mem hq,ih q (by have:=zaE hq;omega) x hxz y hy⟩
theorem zr9{e x:Ex}(hx:x∈flat e):wEx x≤wEx e:=by
 suffices h:∀(m:Nat) (e:Ex),wEx e≤m->∀x∈flat e,wEx x≤wEx e from h _ e (Nat.le_refl _) x hx
 intro m
 induction m with
 | zero=>intro e he;have:=zaI e;omega
 | succ m ih=>
   intro e he x hx
   rw[za2]at hx
   rcases List.mem_cons.1 hx with rfl|hx
   ·exact Nat.le_refl _
   ·unfold flats at hx
    obtain⟨z,hz,hxz⟩:=List.mem_flatten.1 hx
    obtain⟨q,hq,rfl⟩:=List.mem_map.1 hz
    have h1:=zaE hq
    have:=ih q (by omega) x hxz
    omega
theorem ExSt.sub{e x:Ex}(h:ExSt e)(hx:x∈flat e):ExSt x:=⟨Nat.le_trans (zr9 hx) h.w,fun y hy=>h.names y (zjt hx y hy),fun y hy=>h.arrow y (zjt hx y hy)⟩
theorem ExSt.arg{e x:Ex}(h:ExSt e)(hx:x∈e.args):ExSt x:=h.sub (zc0 hx x (by rw[za2];simp))
theorem ExSt.late{e:Ex}(h:ExSt e){l:List Str}(hl:za0 l):zk2 l e:=zgS l hl _ e (Nat.le_refl _) h.w h.names
theorem ExSt.some{e:Ex}(h:ExSt e){l:List Str}(hl:za0 l):zrC l e.args:=zjH l e.args (by have:=zcq e;have:=h.w;omega) fun a ha=>(h.arg ha).late hl
set_option maxHeartbeats 2000000 in
theorem zkj (l:List Str) (hl:za0 l) (e:Ex) (h:ExSt e):MisS l e:=by
 have hs:=zc4 e
 rw[zaA]at hs
 have hc0:exC e=[T.n e.kind,T.n e.op,T.n e.t,T.n e.v,.s e.name,.sl 6 (e.args.map exT)]:=rfl
 unfold MisS
 rw[hc0]at hs⊢
 refine so Tryz.func45 ?_
 repeat' (first|refine wkb ?_|refine wk ?_|exact wkc|intro hc|refine wk2 ?_ ?_|refine wv hs ?_|fail)
 refine TR.zd4 e (fun _=>[setB l,.cells [.mp 0],.cells [.t (T.n e.kind),.t (T.n e.op),.t (T.n e.t),.t (T.n e.v),.t (T.s e.name),.t (T.sl 6 (e.args.map exT))],.cells [.b false]]) (allF (fun x=>!badX l x) [setB l,.cells [.mp 0],.cells [.t (T.n e.kind),.t (T.n e.op),.t (T.n e.t),.t (T.n e.v),.t (T.s e.name),.t (T.sl 6 (e.args.map exT))],.cells [.b true]]) rfl h.w rfl rfl rfl (fun _=>⟨rfl,rfl⟩) (fun pre x=>?_) (fun fn pre x post hw=>?_) (fun fn=>?_)
 ·unfold allF
  split <;> rename_i hq <;> split at hq <;> cases hq
  ·trivial
  ·exact⟨rfl,rfl⟩
 ·have hxm:x∈flat e:=by rw[hw];simp
  have ho:=h.sub hxm
  have hsm:=ho.some hl
  unfold zrC at hsm
  have hnm:=ho.names x (by rw[za2];simp)
  have hbad:badX l x=if x.kind.1=5\/x.kind.1=7\/x.kind.1=10 then x.args.any (zaW l) else if x.kind.1=6 then(x.args.take 1).any (zaW l) else if x.kind.1=8 then decide (x.name∈l) else if x.kind.1=9 then decide (x.name∈l) || x.args.any (zaW l) else false:=rfl
  have hall:allF (fun x=>!badX l x) [setB l,.cells [.mp 0],.cells [.t (T.n e.kind),.t (T.n e.op),.t (T.n e.t),.t (T.n e.v),.t (T.s e.name),.t (T.sl 6 (e.args.map exT))],.cells [.b true]] pre x=if badX l x=true then .jump .ret [setB l,.cells [.mp 0],.cells [.t (T.n e.kind),.t (T.n e.op),.t (T.n e.t),.t (T.n e.v),.t (T.s e.name),.t (T.sl 6 (e.args.map exT))],.cells [.b true]] else .go:=by
   show(if(!badX l x)=true then _ else _)=_
   cases badX l x <;> rfl
  have hcx:exC x=[T.n x.kind,T.n x.op,T.n x.t,T.n x.v,.s x.name,.sl 6 (x.args.map exT)]:=rfl
  rw[hcx]
  by_cases h6:x.kind.1=6
  ·obtain⟨a,r,har⟩:∃a r,x.args=a::r:=List.exists_cons_of_ne_nil (ho.arrow x (by rw[za2];simp) h6)
   have hla:=(ho.arg (x:=a) (by rw[har];simp)).late hl
   rw[if_neg (by omega),if_pos h6,har,show(List.take 1 (a::r)).any (zaW l)=zaW l a by simp]at hbad
   rw[hbad]at hall
   clear hbad hsm
   unfold zk2 at hla
   rw[zaA]at hla
   rw[har,show(a::r).map exT= .ag (exC a)::r.map exT by rw[List.map_cons,zaA]]
   generalize zaW l a=b at*
   unfold exC at hla⊢
   repeat' (first|refine wu ?_|exact wkc|intro hc|refine wk2 ?_ ?_|fail)
   refine⟨rfl,?_⟩
   repeat' (first|refine wu ?_|exact wkc|intro hc|refine wk2 ?_ ?_|(apply TO.zem 1 hla;(iterate 3 exact rfl);exact⟨Le.refl _,Le.refl _,trivial⟩;exact lb;(iterate 3 exact rfl))|fail)
   all_goals subst hc
   ·refine⟨_,?_,rfl,rfl⟩
    rw[hall,if_pos rfl];rfl
   ·exact⟨by rw[hall];rfl,rfl,rfl⟩
  ·rw[if_neg h6]at hbad
   generalize badX l x=b at*
   generalize x.args.any (zaW l)=z at*
   repeat' (first|refine wu ?_|exact wkc|intro hc|refine wk2 ?_ ?_|fail)
   refine⟨rfl,?_⟩
   repeat' (first|refine wu ?_|exact wkc|intro hc|refine wk2 ?_ ?_|(apply TO.zem 1 hsm;(iterate 3 exact rfl);exact⟨Le.refl _,Le.refl _,trivial⟩;exact lb;(iterate 3 exact rfl))|(apply TO.zer;(iterate 4 exact rfl);assumption;assumption)|fail)
   all_goals first
    | (refine⟨_,?_,rfl,rfl⟩
       rw[hall,if_pos (show b=true by clear hs hc0 hcx hall hsm;grind)];rfl)
    | (refine⟨?_,rfl,rfl⟩
       rw[hall,if_neg (show ¬b=true by clear hs hc0 hcx hall hsm;grind)])
 ·rw[zkN,show((flat e).all fun x=>!badX l x)= !misX l e by unfold misX;rw[List.not_any_eq_all_not]]
  cases misX l e with
  | true=>
    simp only[Bool.not_true,Bool.false_eq_true,if_false]
    repeat' (first|refine wu ?_|exact wkc|intro hc|refine wk2 ?_ ?_|fail)
    exact RetK.keep 1 rfl (Le.refl _) rfl rfl rfl rfl rfl ⟨rfl,rfl⟩
  | false=>
    simp only[Bool.not_false,if_true]
    repeat' (first|refine wu ?_|exact wkc|intro hc|refine wk2 ?_ ?_|fail)
    exact RetK.keep 1 rfl (Le.refl _) rfl rfl rfl rfl rfl ⟨rfl,rfl⟩
theorem ze7{α:Type}{f:α->Bool}{l:List α}{k:Nat}(hk:k<l.length)(h:(l.take k).any f=false)(hn:f l[k]=false):(l.take (k+1)).any f=false:=by
 rw[List.take_succ_eq_append_getElem hk,List.any_append,h];simp[hn]
theorem zgN{α:Type}{f:α->Bool}{l:List α}{k:Nat}(hk:k<l.length)(h:f l[k]=true):l.any f=true:=List.any_eq_true.2 ⟨_,List.getElem_mem hk,h⟩
theorem zgK{α:Type}{f:α->Bool}{l:List α}(h:(l.take l.length).any f=false):l.any f=false:=by rwa [List.take_length]at h
theorem zsR{α:Type}{f:α->Bool}{l:List α}{k:Nat}(hk:k<l.length)(h:(l.take k).any f=false)(hn:f l[k]=true):l.findIdx f=k:=by
 rw[List.findIdx_eq hk]
 refine⟨hn,fun j hj=>?_⟩
 have:=List.any_eq_false.1 h (l[j]'(by omega)) (by rw[List.mem_take_iff_getElem];exact⟨j,by omega,rfl⟩)
 simpa using this
structure NodS (n:Nod):Prop where
 eqs:zmT n.eqs
 rights:∀u∈n.eqs,ExSt u.right
 claims:∀e∈n.assume++n.ensure,ExSt e
 outs:n.outs.length≤1000000000/\∀d∈n.outs,d.name.length≤1000000000
 locals:n.locals.length≤1000000000/\∀d∈n.locals,zaM d.clock
 le:n.assume.length≤1000000000/\n.ensure.length≤1000000000
theorem zft{z:Int×Bool}{i:Int}{b:Bool}{H:Heap}{env:Env}{rs:List ResultVar}(h:z=(i,b))(hr:zca tab env H rs=some [.i i,.b b]:=by exact rfl):
  RetK tab rs 0 (fun r H'=>r= .ret (.tup [.i z.1,.b z.2])/\H'=[]) .ret env H:=by
 subst h
 exact RetK.pure hr (Le.refl _) rfl
set_option maxHeartbeats 4000000 in
theorem zm0 (n:Nod) (hN:NodS n):Pure Tryz.prog 26 [.t (.ag (nodC n))] (.tup [.i (zdR n).1,.b (zdR n).2]):=by
 have hl:=zfr n hN.eqs
 have hok:=zhP hN.eqs
 have hmis:=fun e (h:ExSt e)=>zkj (zaJ n) hok e h
 have hlt:=fun e (h:ExSt e)=>h.late hok
 have hz:zdR n=zdR n:=rfl
 conv at hz=>rhs;unfold zdR
 have hr:zo7 n (zaJ n)=((n.outs.any fun d=>decide (d.name∈zaJ n)) || (n.locals.any fun d=>d.clock.any fun o=>decide (o.name∈zaJ n)) || ((n.assume++n.ensure).any fun e=>zaW (zaJ n) e || misX (zaJ n) e)):=rfl
 generalize zdR n=z at hz⊢
 generalize zo7 n (zaJ n)=rr at*
 generalize zaJ n=V at*
 obtain⟨MX,hMX⟩:∃MX:Ex->Bool,∀e,MX e=misX V e:=⟨_,fun _=>rfl⟩
 obtain⟨LX,hLX⟩:∃LX:Ex->Bool,∀e,LX e=zaW V e:=⟨_,fun _=>rfl⟩
 unfold MisS at hmis
 unfold zk2 at hlt
 simp only[<-hMX,<-hLX]at hz hr hmis hlt
 clear hMX hLX
 have hme:(n.eqs.map equT).length=n.eqs.length:=List.length_map _
 have hmo:(n.outs.map zah).length=n.outs.length:=List.length_map _
 have hml:(n.locals.map zah).length=n.locals.length:=List.length_map _
 have hle:=hN.eqs.len
 have hlo:=hN.outs.1
 have hll:=hN.locals.1
 have hno:=hN.outs.2
 have hlk:=hN.locals.2
 obtain⟨hla,hln⟩:=hN.le
 have hrg:=hN.rights
 have hcl:=hN.claims
 clear hN
 unfold nodC at*
 refine so Tryz.func26 ?_
 repeat' (first|refine wu ?_|exact wkc|intro hc|refine wk2 ?_ ?_|(apply TO.zrd hl;(iterate 3 exact rfl);exact⟨Le.refl _,trivial⟩;exact rfl)|fail)
 refine TR.zal n.eqs.length (fun k=>(n.eqs.take k).any (fun u=>MX u.right)=false) (fun k=>[(1,.cp (nC n) 0),(4,.mp 0),(20,.t (.sl 7 (n.eqs.map equT))),(21,.i (n.eqs.map equT).length),(22,.i k)]) (fun _=>[setB V]) rfl (fun k hlt2 ha=>?_) (fun ha=>?_)
 ·have hx:=zcP hlt2
  have g1:=ze7 (f:=fun u:Equ=>MX u.right) hlt2 ha
  have g2:=zgN (f:=fun u:Equ=>MX u.right) hlt2
  have g3:=zsR (f:=fun u:Equ=>MX u.right) hlt2 ha
  have hs:=hmis _ (hrg _ (List.getElem_mem hlt2))
  generalize n.eqs[k]=u at*
  generalize MX u.right=b at*
  unfold equC at hx
  unfold exC at hs
  clear hmis hlt hrg hcl
  repeat' (first|refine wkt ?_|refine wka ?_|refine wk ?_|exact wkc|intro hc|refine wk2 ?_ ?_|(apply TO.zem 1 hs;(iterate 3 exact rfl);exact⟨Le.refl _,Le.refl _,trivial⟩;exact lb;(iterate 3 exact rfl))|fail)
  ·rw[if_pos (g2 hc),g3 hc]at hz
   exact zft hz
  ·exact zab.zak hlt2 (g1 hc)
 rw[if_neg (by rw[zgK ha];decide)]at hz
 clear hrg
 repeat' (first|refine wu ?_|exact wkc|intro hc|refine wk2 ?_ ?_|fail)
 refine TR.zal n.outs.length (fun k=>(n.outs.take k).any (fun d=>decide (d.name∈V))=false) (fun k=>[(1,.cp (nC n) 0),(4,.mp 0),(34,.t (.sl 3 (n.outs.map zah))),(35,.i (n.outs.map zah).length),(36,.i k)]) (fun _=>[setB V]) rfl (fun k hlt2 hb=>?_) (fun hb=>?_)
 ·have hx:=zbh hlt2
  have g1:=ze7 (f:=fun d:Decl=>decide (d.name∈V)) hlt2 hb
  have g2:=zgN (f:=fun d:Decl=>decide (d.name∈V)) hlt2
  have hno:=hno _ (List.getElem_mem hlt2)
  generalize n.outs[k]=u at*
  unfold zb4 at hx
  clear hmis hlt hcl
  repeat' (first|refine wu ?_|exact wkc|intro hc|refine wk2 ?_ ?_|(apply TO.zer;(iterate 4 exact rfl);assumption;assumption)|fail)
  ·rw[hr,g2 (decide_eq_true hc)]at hz
   exact zft (by simpa using hz)
  ·exact zab.zak hlt2 (g1 (decide_eq_false hc))
 rw[zgK hb,Bool.false_or]at hr
 clear hno
 repeat' (first|refine wu ?_|exact wkc|intro hc|refine wk2 ?_ ?_|fail)
 refine TR.zal n.locals.length (fun k=>(n.locals.take k).any (fun d=>d.clock.any fun o=>decide (o.name∈V))=false) (fun k=>[(1,.cp (nC n) 0),(4,.mp 0),(46,.t (.sl 3 (n.locals.map zah))),(47,.i (n.locals.map zah).length),(48,.i k)]) (fun _=>[setB V]) rfl (fun k hlt2 hc'=>?_) (fun hc'=>?_)
 ·have hx:=zbh hlt2
  have g1:=ze7 (f:=fun d:Decl=>d.clock.any fun o=>decide (o.name∈V)) hlt2 hc'
  have g2:=zgN (f:=fun d:Decl=>d.clock.any fun o=>decide (o.name∈V)) hlt2
  have hK:=hlk _ (List.getElem_mem hlt2)
  generalize n.locals[k]=u at*
  obtain⟨hk1,hk2⟩:=hK
  have hmc:(u.clock.map onT).length=u.clock.length:=List.length_map _
  unfold zb4 at hx
  clear hmis hlt hcl hlk
  repeat' (first|refine wu ?_|exact wkc|intro hc|refine wk2 ?_ ?_|fail)
  refine TR.zal u.clock.length (fun j=>(u.clock.take j).any (fun o=>decide (o.name∈V))=false) (fun j=>[(1,.cp (nC n) 0),(4,.mp 0),(46,.t (.sl 3 (n.locals.map zah))),(47,.i (n.locals.map zah).length),(48,.i k),(53,.t (.sl 3 (u.clock.map onT))),(54,.i (u.clock.map onT).length),(55,.i j)]) (fun _=>[setB V]) rfl (fun j hlj hd=>?_) (fun hd=>?_)
  ·have hx2:=zmR hlj
   have f1:=ze7 (f:=fun o:OnC=>decide (o.name∈V)) hlj hd
   have f2:=zgN (f:=fun o:OnC=>decide (o.name∈V)) hlj
   have hno:=hk2 _ (List.getElem_mem hlj)
   generalize u.clock[j]=o at*
   repeat' (first|refine wu ?_|exact wkc|intro hc|refine wk2 ?_ ?_|(apply TO.zer;(iterate 4 exact rfl);assumption;assumption)|fail)
   ·rw[hr,g2 (f2 (decide_eq_true hc))]at hz
    exact zft (by simpa using hz)
   ·exact zab.zak hlj (f1 (decide_eq_false hc))
  ·have e1:=zgK hd
   repeat' (first|refine wu ?_|exact wkc|intro hc|refine wk2 ?_ ?_|fail)
   exact zab.zak hlt2 (g1 e1)
 rw[zgK hc',Bool.false_or]at hr
 clear hlk
 have hap:(n.assume++n.ensure).any (fun e=>LX e || MX e)=(n.assume.any (fun e=>LX e || MX e) || n.ensure.any (fun e=>LX e || MX e)):=List.any_append
 repeat' (first|refine wu ?_|exact wkc|intro hc|refine wk2 ?_ ?_|fail)
 refine TR.zal 2 (fun k=>(([n.assume,n.ensure].take k).flatten).any (fun e=>LX e || MX e)=false) (fun k=>[(4,.mp 0),(69,.t (.sl 1 [.sl 6 (n.assume.map exT),.sl 6 (n.ensure.map exT)])),(70,.i 2),(71,.i k)]) (fun _=>[setB V]) rfl (fun k hlt2 hd=>?_) (fun hd=>?_)
 ·obtain⟨L,hL,hLm,hLl,hnx,hat⟩:∃L:List Ex,[n.assume,n.ensure][k]?=some L/\(∀e∈L,e∈n.assume++n.ensure)/\L.length≤1000000000/\(L.any (fun e=>LX e || MX e)=false->(([n.assume,n.ensure].take (k+1)).flatten).any (fun e=>LX e || MX e)=false)/\(L.any (fun e=>LX e || MX e)=true->rr=true):=by
   rcases(by omega:k=0\/k=1)with rfl|rfl
   ·exact⟨n.assume,rfl,fun e he=>by simp[he],hla,fun h=>by simpa using h,fun h=>by rw[hr,hap,h];rfl⟩
   ·have h1:n.assume.any (fun e=>LX e || MX e)=false:=by simpa using hd
    exact⟨n.ensure,rfl,fun e he=>by simp[he],hln,fun h=>by
     show((n.assume++(n.ensure++[])).any _)=false
     rw[List.append_nil,List.any_append,h1,h];rfl,fun h=>by rw[hr,hap,h,Bool.or_true]⟩
  have hv:[T.sl 6 (n.assume.map exT),.sl 6 (n.ensure.map exT)][k]?=some (.sl 6 (L.map exT)):=by
   have:=congrArg (Option.map fun l:List Ex=>T.sl 6 (l.map exT)) hL
   rw[<-List.getElem?_map]at this
   exact this
  have hm1:=fun e he=>hmis e (hcl e (hLm e he))
  have hm2:=fun e he=>hlt e (hcl e (hLm e he))
  have hmL:(L.map exT).length=L.length:=List.length_map _
  clear hL hLm hmis hlt hcl hap hr
  generalize n.assume=A at*
  generalize n.ensure=B at*
  repeat' (first|refine wu ?_|exact wkc|intro hc|refine wk2 ?_ ?_|fail)
  refine TR.zal L.length (fun j=>(L.take j).any (fun e=>LX e || MX e)=false) (fun j=>[(4,.mp 0),(69,.t (.sl 1 [.sl 6 (A.map exT),.sl 6 (B.map exT)])),(70,.i 2),(71,.i k),(75,.t (.sl 6 (L.map exT))),(76,.i (L.map exT).length),(77,.i j)]) (fun _=>[setB V]) rfl (fun j hlj hb2=>?_) (fun hb2=>?_)
  ·have hx:=zbd hlj
   have f1:=ze7 (f:=fun e=>LX e || MX e) hlj hb2
   have f2:=zgN (f:=fun e=>LX e || MX e) hlj
   have hs1:=hm1 _ (List.getElem_mem hlj)
   have hs2:=hm2 _ (List.getElem_mem hlj)
   generalize L[j]=x at*
   rw[zaA]at hs2
   generalize LX x=r1 at*
   generalize MX x=r2 at*
   unfold exC at hx hs1 hs2
   clear hm1 hm2
   repeat' (first|refine wu ?_|exact wkc|intro hc|refine wk2 ?_ ?_|(apply TO.zem 1 hs1;(iterate 3 exact rfl);exact⟨Le.refl _,Le.refl _,trivial⟩;exact lb;(iterate 3 exact rfl))|(apply TO.zem 1 hs2;(iterate 3 exact rfl);exact⟨Le.refl _,Le.refl _,trivial⟩;exact lb;(iterate 3 exact rfl))|fail)
   all_goals first
    | exact zab.zak hlj (f1 (by simp_all))
    | (rw[hat (f2 (by simp_all))]at hz;exact zft hz)
  ·have e1:=zgK hb2
   repeat' (first|refine wu ?_|exact wkc|intro hc|refine wk2 ?_ ?_|fail)
   exact zab.zak hlt2 (hnx e1)
 ·have hb0:(n.assume++n.ensure).any (fun e=>LX e || MX e)=false:=by simpa using hd
  rw[hr,hb0]at hz
  repeat' (first|refine wu ?_|exact wkc|intro hc|refine wk2 ?_ ?_|fail)
  exact zft hz
theorem zqE{g:Nat->Ex->Bool}{l:List Ex}{k:Nat}(h:k<l.length):anyI g k (l.drop k)=(g k l[k] || anyI g (k+1) (l.drop (k+1))):=by
 rw[List.drop_eq_getElem_cons h,anyI]
theorem zrN(V:List Str)(e:Ex):misX V e=((decide (e.kind.1=8\/e.kind.1=9) && decide (e.name∈V)) || anyI (fun i a=>(zci e i && zaW V a) || misX V a) 0 e.args):=by
 have hp:=zaI e
 rw[<-zny V (wEx e) e (Nat.le_refl _),show misR V (wEx e) e=misR V (wEx e-1+1) e from by rw[Nat.sub_add_cancel hp],misR,ze6 (g:=fun i a=>(zci e i && zaW V a) || misX V a) fun a ha i=>by
  show((zci e i && zaW V a) || misR V _ a)=_
  rw[zny V _ a (by have:=zaE ha;omega)]]
set_option maxHeartbeats 4000000 in
theorem zo0 (V:List Str) (hV:V.length≤2000000000):∀(m:Nat) (e:Ex),wEx e≤m->m≤1000000000->Pure Tryz.prog 50 [.t (.ag (exC e)),.t (zae V)] (.b (misX V e)):=by
 intro m
 induction m with
 | zero=>intro e he;have:=zaI e;omega
 | succ m ih0=>
   intro e he hm
   have ih:=fun a (ha:a∈e.args)=>ih0 a (by have:=zaE ha;omega) (by omega)
   have ihl:=fun a (ha:a∈e.args)=>zei V hV _ a (Nat.le_refl _) (by have:=zaE ha;omega)
   clear ih0
   have hh:=zba V e.name hV
   have hlen:=zcq e
   have hb:=zrN V e
   have hml:(e.args.map exT).length=e.args.length:=List.length_map _
   unfold exC
   generalize misX V e=b at*
   generalize e.args=l at*
   by_cases h1:(e.kind.1=8\/e.kind.1=9)/\e.name∈V
   ·rw[decide_eq_true h1.1,decide_eq_true h1.2]at hb
    rw[decide_eq_true h1.2]at hh
    subst hb
    refine so Tryz.func50 ?_
    repeat' (first|refine wu ?_|exact wkc|intro hc|refine wk2 ?_ ?_|refine wv hh ?_|fail)
    all_goals first
     | exact wkr
     | (exfalso;omega)
   ·rw[show(decide (e.kind.1=8\/e.kind.1=9) && decide (e.name∈V))=false by
     rw[Bool.and_eq_false_iff,decide_eq_false_iff_not,decide_eq_false_iff_not]
     by_cases h2:e.kind.1=8\/e.kind.1=9
     ·exact .inr fun h3=>h1 ⟨h2,h3⟩
     ·exact .inl h2,Bool.false_or]at hb
    have hh':(e.kind.1=8\/e.kind.1=9)->Pure Tryz.prog 21 [.t (zae V),.s e.name] (.b false):=fun h2=>by
     rw[decide_eq_false (fun h3=>h1 ⟨h2,h3⟩)]at hh;exact hh
    clear hh h1
    refine so Tryz.func50 ?_
    repeat' (first|refine wu ?_|exact wkc|intro hc|refine wk2 ?_ ?_|refine wv (hh' (by omega)) ?_|fail)
    all_goals
     refine TR.zal l.length (fun k=>b=anyI (fun i a=>(zci e i && zaW V a) || misX V a) k (l.drop k)) (fun k=>[(1,.t (zae V)),(2,.cp [T.n e.kind,T.n e.op,T.n e.t,T.n e.v,.s e.name,.sl 6 (l.map exT)] 0),(5,.i k)]) (fun _=>[]) hb (fun k hlt ha=>?_) (fun ha=>?_)
     ·have hx:=zbd hlt
      have hs:=ih _ (List.getElem_mem hlt)
      have hq:=ihl _ (List.getElem_mem hlt)
      rw[zqE hlt]at ha
      have hse:zci e k=decide (e.kind.1=5\/e.kind.1=7\/e.kind.1=9\/e.kind.1=10\/e.kind.1=6/\(k:Int)=0):=by unfold zci;congr 1;apply propext;omega
      obtain⟨rest,hrest⟩:∃rest,anyI (fun i a=>(zci e i && zaW V a) || misX V a) (k+1) (l.drop (k+1))=rest:=⟨_,rfl⟩
      rw[hrest]at ha
      generalize zci e k=st at*
      generalize l[k]=x at*
      generalize zaW V x=bl at*
      generalize misX V x=bm at*
      clear ih ihl hh' hb
      unfold exC at*
      repeat' (first|refine wu ?_|exact wkc|intro hc|refine wk2 ?_ ?_|refine wbf hq ?_ ?_|refine wbf hs ?_ ?_|fail)
      all_goals first
       | exact zab.zak hlt (by rw[hrest];clear hq hs hx hrest;grind)
       | (refine RetK.pure rfl (Le.of_eq ?_) rfl;refine congrArg (fun b=>SV.t (T.v (Value.bool b))) ?_;clear hq hs hx hrest;grind)
     ·rw[List.drop_of_length_le (Nat.le_refl _)]at ha
      rw[ha]
      repeat' (first|refine wu ?_|exact wkc|intro hc|refine wk2 ?_ ?_|fail)
      exact wkr
theorem zik{α:Type}{f:α->Bool}{l:List α}{k:Nat}(hk:k<l.length):(l.take (k+1)).any f=((l.take k).any f || f l[k]):=by
 rw[List.take_succ_eq_append_getElem hk,List.any_append];simp
set_option maxHeartbeats 8000000 in
theorem zm6 (n:Nod) (hN:NodS n):Pure Tryz.prog 29 [.t (.ag (nodC n))] (.tup [.i (zdR n).1,.b (zdR n).2]):=by
 have hl:=zhl n hN.eqs
 have hok:=zhP hN.eqs
 have hVl:(zaJ n).length≤1000000000:=by
  obtain⟨R,_,_,h3⟩:=rounds n.eqs (n.eqs.length+1) [] List.nodup_nil (by simp) (by simp)
  have h:=(Lefts.nil n.eqs).it R
  have:=zhB h.1 h.2
  have:=hN.eqs.len
  unfold zaJ
  rw[<-h3];omega
 have hmis:=fun e (h:ExSt e)=>zo0 (zaJ n) (by omega) _ e (Nat.le_refl _) h.w
 have hlt:=fun e (h:ExSt e)=>zei (zaJ n) (by omega) _ e (Nat.le_refl _) h.w
 have hz:zdR n=zdR n:=rfl
 conv at hz=>rhs;unfold zdR
 have hr:zo7 n (zaJ n)=((n.outs.any fun d=>decide (d.name∈zaJ n)) || (n.locals.any fun d=>d.clock.any fun o=>decide (o.name∈zaJ n)) || ((n.assume++n.ensure).any fun e=>zaW (zaJ n) e || misX (zaJ n) e)):=rfl
 generalize zdR n=z at hz⊢
 generalize zo7 n (zaJ n)=rr at*
 generalize zaJ n=V at*
 obtain⟨MX,hMX⟩:∃MX:Ex->Bool,∀e,MX e=misX V e:=⟨_,fun _=>rfl⟩
 obtain⟨LX,hLX⟩:∃LX:Ex->Bool,∀e,LX e=zaW V e:=⟨_,fun _=>rfl⟩
 simp only[<-hMX,<-hLX]at hz hr hmis hlt
 clear hMX hLX
 have hh:=fun s=>zba V s (by omega)
 have hme:(n.eqs.map equT).length=n.eqs.length:=List.length_map _
 have hmo:(n.outs.map zah).length=n.outs.length:=List.length_map _
 have hml:(n.locals.map zah).length=n.locals.length:=List.length_map _
 have hma:(n.assume.map exT).length=n.assume.length:=List.length_map _
 have hms:(n.ensure.map exT).length=n.ensure.length:=List.length_map _
 have hle:=hN.eqs.len
 have hlo:=hN.outs.1
 have hll:=hN.locals.1
 have hlk:=hN.locals.2
 obtain⟨hla,hln⟩:=hN.le
 have hrg:=hN.rights
 have hcl:=hN.claims
 clear hN hok
 unfold nodC at*
 refine so Tryz.func29 ?_
 repeat' (first|refine wu ?_|exact wkc|intro hc|refine wk2 ?_ ?_|refine wv hl ?_|fail)
 refine TR.zal n.eqs.length (fun k=>(n.eqs.take k).any (fun u=>MX u.right)=false) (fun k=>[(1,.cp (nC n) 0),(4,.t (zae V)),(5,.i k)]) (fun _=>[]) rfl (fun k hlt2 ha=>?_) (fun ha=>?_)
 ·have hx:=zcP hlt2
  have g1:=ze7 (f:=fun u:Equ=>MX u.right) hlt2 ha
  have g2:=zgN (f:=fun u:Equ=>MX u.right) hlt2
  have g3:=zsR (f:=fun u:Equ=>MX u.right) hlt2 ha
  have hs:=hmis _ (hrg _ (List.getElem_mem hlt2))
  generalize n.eqs[k]=u at*
  generalize MX u.right=b at*
  unfold equC at hx
  unfold exC at hs
  clear hmis hlt hrg hcl
  repeat' (first|refine wu ?_|exact wkc|intro hc|refine wk2 ?_ ?_|refine wbf hs ?_ ?_|fail)
  ·rw[if_pos (g2 hc),g3 hc]at hz
   exact zft hz
  ·exact zab.zak hlt2 (g1 hc)
 rw[if_neg (by rw[zgK ha];decide)]at hz
 clear hrg
 repeat' (first|refine wu ?_|exact wkc|intro hc|refine wk2 ?_ ?_|fail)
 refine TR.zal n.outs.length (fun _=>True) (fun k=>[(1,.cp (nC n) 0),(4,.t (zae V)),(6,.b ((n.outs.take k).any (fun d=>decide (d.name∈V)))),(7,.i k)]) (fun _=>[]) trivial (fun k hlt2 _=>?_) (fun _=>?_)
 ·have hx:=zbh hlt2
  have g1:=zik (f:=fun d:Decl=>decide (d.name∈V)) hlt2
  have hs:=hh n.outs[k].name
  generalize n.outs[k]=u at*
  unfold zb4 at hx
  clear hmis hlt hcl hh
  generalize (n.outs.take k).any (fun d=>decide (d.name∈V))=bb at*
  generalize decide (u.name∈V)=r at*
  cases bb <;> cases r
  all_goals
   repeat' (first|refine wu ?_|exact wkc|intro hc|refine wk2 ?_ ?_|refine wv hs ?_|fail)
   exact zab.zak hlt2 trivial ⟨rfl,rfl,by(try dsimp only);rw[g1];rfl,rfl,trivial⟩
 rw[List.take_length]
 generalize n.outs.any (fun d=>decide (d.name∈V))=B1 at*
 repeat' (first|refine wu ?_|exact wkc|intro hc|refine wk2 ?_ ?_|fail)
 refine TR.zal n.locals.length (fun _=>True) (fun k=>[(1,.cp (nC n) 0),(4,.t (zae V)),(6,.b (B1 || (n.locals.take k).any (fun d=>d.clock.any fun o=>decide (o.name∈V)))),(8,.i k)]) (fun _=>[]) trivial (fun k hlt2 _=>?_) (fun _=>?_) ⟨rfl,rfl,by(try dsimp only);rw[List.take_zero,List.any_nil,Bool.or_false];rfl,rfl,trivial⟩
 ·have hx:=zbh hlt2
  have g1:=zik (f:=fun d:Decl=>d.clock.any fun o=>decide (o.name∈V)) hlt2
  have hK:=hlk _ (List.getElem_mem hlt2)
  generalize n.locals[k]=u at*
  obtain⟨hk1,hk2⟩:=hK
  have hmc:(u.clock.map onT).length=u.clock.length:=List.length_map _
  unfold zb4 at hx
  clear hmis hlt hcl hlk
  generalize hbb:(B1 || (n.locals.take k).any (fun d=>d.clock.any fun o=>decide (o.name∈V)))=bb
  have hnx:(B1 || (n.locals.take (k+1)).any (fun d=>d.clock.any fun o=>decide (o.name∈V)))=(bb || u.clock.any fun o=>decide (o.name∈V)):=by rw[g1,<-Bool.or_assoc,hbb]
  clear g1 hbb
  repeat' (first|refine wu ?_|exact wkc|intro hc|refine wk2 ?_ ?_|fail)
  refine TR.zal u.clock.length (fun _=>True) (fun j=>[(1,.cp (nC n) 0),(4,.t (zae V)),(6,.b (bb || (u.clock.take j).any (fun o=>decide (o.name∈V)))),(8,.i k),(9,.i j)]) (fun _=>[]) trivial (fun j hlj _=>?_) (fun _=>?_) ⟨rfl,rfl,by(try dsimp only);rw[List.take_zero,List.any_nil,Bool.or_false];rfl,rfl,rfl,trivial⟩
  ·have hx2:=zmR hlj
   have f1:=zik (f:=fun o:OnC=>decide (o.name∈V)) hlj
   have hs:=hh u.clock[j].name
   generalize u.clock[j]=o at*
   clear hh hnx
   generalize hbc:(bb || (u.clock.take j).any (fun o=>decide (o.name∈V)))=bc
   have hny:(bb || (u.clock.take (j+1)).any (fun o=>decide (o.name∈V)))=(bc || decide (o.name∈V)):=by rw[f1,<-Bool.or_assoc,hbc]
   clear f1 hbc
   generalize decide (o.name∈V)=r at*
   cases bc <;> cases r
   all_goals
    repeat' (first|refine wu ?_|exact wkc|intro hc|refine wk2 ?_ ?_|refine wv hs ?_|fail)
    exact zab.zak hlj trivial ⟨rfl,rfl,by(try dsimp only);rw[hny];rfl,rfl,rfl,trivial⟩
  ·rw[List.take_length,<-hnx]
   repeat' (first|refine wu ?_|exact wkc|intro hc|refine wk2 ?_ ?_|fail)
   exact zab.zak hlt2 trivial
 rw[List.take_length]
 generalize hB2:(B1 || n.locals.any (fun d=>d.clock.any fun o=>decide (o.name∈V)))=B2 at*
 clear hlk
 rw[List.any_append]at hr
 repeat' (first|refine wu ?_|exact wkc|intro hc|refine wk2 ?_ ?_|fail)
 refine TR.zal n.assume.length (fun _=>True) (fun k=>[(1,.cp (nC n) 0),(4,.t (zae V)),(6,.b (B2 || (n.assume.take k).any (fun e=>LX e || MX e))),(10,.i k)]) (fun _=>[]) trivial (fun k hlt2 _=>?_) (fun _=>?_) ⟨rfl,rfl,by(try dsimp only);rw[List.take_zero,List.any_nil,Bool.or_false];rfl,rfl,trivial⟩
 ·have hx:=zbd hlt2
  have g1:=zik (f:=fun e=>LX e || MX e) hlt2
  have hs1:=hmis n.assume[k] (hcl _ (by simp[List.getElem_mem hlt2]))
  have hs2:=hlt n.assume[k] (hcl _ (by simp[List.getElem_mem hlt2]))
  generalize n.assume[k]=x at*
  generalize LX x=r1 at*
  generalize MX x=r2 at*
  unfold exC at hx hs1 hs2
  clear hmis hlt hcl
  generalize hbb:(B2 || (n.assume.take k).any (fun e=>LX e || MX e))=bb
  have hnx:(B2 || (n.assume.take (k+1)).any (fun e=>LX e || MX e))=(bb || (r1 || r2)):=by rw[g1,<-Bool.or_assoc,hbb]
  clear g1 hbb
  cases bb <;> cases r1 <;> cases r2
  all_goals
   repeat' (first|refine wu ?_|exact wkc|intro hc|refine wk2 ?_ ?_|refine wv hs1 ?_|refine wv hs2 ?_|fail)
   exact zab.zak hlt2 trivial ⟨rfl,rfl,by(try dsimp only);rw[hnx];rfl,rfl,trivial⟩
 rw[List.take_length]
 generalize hB3:(B2 || n.assume.any (fun e=>LX e || MX e))=B3 at*
 repeat' (first|refine wu ?_|exact wkc|intro hc|refine wk2 ?_ ?_|fail)
 refine TR.zal n.ensure.length (fun _=>True) (fun k=>[(1,.cp (nC n) 0),(4,.t (zae V)),(6,.b (B3 || (n.ensure.take k).any (fun e=>LX e || MX e))),(11,.i k)]) (fun _=>[]) trivial (fun k hlt2 _=>?_) (fun _=>?_) ⟨rfl,rfl,by(try dsimp only);rw[List.take_zero,List.any_nil,Bool.or_false];rfl,rfl,trivial⟩
 ·have hx:=zbd hlt2
  have g1:=zik (f:=fun e=>LX e || MX e) hlt2
  have hs1:=hmis n.ensure[k] (hcl _ (by simp[List.getElem_mem hlt2]))
  have hs2:=hlt n.ensure[k] (hcl _ (by simp[List.getElem_mem hlt2]))
  generalize n.ensure[k]=x at*
  generalize LX x=r1 at*
  generalize MX x=r2 at*
  unfold exC at hx hs1 hs2
  clear hmis hlt hcl
  generalize hbb:(B3 || (n.ensure.take k).any (fun e=>LX e || MX e))=bb
  have hnx:(B3 || (n.ensure.take (k+1)).any (fun e=>LX e || MX e))=(bb || (r1 || r2)):=by rw[g1,<-Bool.or_assoc,hbb]
  clear g1 hbb
  cases bb <;> cases r1 <;> cases r2
  all_goals
   repeat' (first|refine wu ?_|exact wkc|intro hc|refine wk2 ?_ ?_|refine wv hs1 ?_|refine wv hs2 ?_|fail)
   exact zab.zak hlt2 trivial ⟨rfl,rfl,by(try dsimp only);rw[hnx];rfl,rfl,trivial⟩
 rw[List.take_length]
 generalize hB4:(B3 || n.ensure.any (fun e=>LX e || MX e))=B4 at*
 have hrr:rr=B4:=by rw[hr,<-Bool.or_assoc,hB3,hB4]
 rw[hrr]at hz
 repeat' (first|refine wu ?_|exact wkc|intro hc|refine wk2 ?_ ?_|fail)
 exact zft hz
theorem zh6{p:Prog}(h:(zbi p).2=0){n:Nod}(hn:n∈p.nodes)(hw:(nodT n).w≤100000000):NodS n:=by
 have hK:=znE h hn hw
 have hT:=znl (zbL (zee (zdz h).1) n hn) hw
 have hwn:=zdJ n
 have l1:=zaq zah 3 n.outs
 have d1:(zac n.outs).w=(T.sl 3 (n.outs.map zah)).w:=rfl
 have arr:∀ {e:Ex},ExT e->∀x∈flat e,x.kind.1=6->x.args≠ []:=fun he x hx h6 h0=>by
  have:=(he.2 x hx).more (by omega) (by omega)
  rw[h0]at this;simp at this
 refine⟨⟨hK.le.2.1,fun u hu s hs=>?_,fun u hu=>(hK.eqs u hu).2.2⟩,fun u hu=>⟨(hK.eqs u hu).2.2.1,(hK.eqs u hu).2.2.2,arr (hT.eqs u hu).2⟩,fun e he=>⟨(hK.exs e he).1,(hK.exs e he).2,?_⟩,⟨by omega,fun d hd=>?_⟩,⟨hK.le.1,fun d hd=>hK.clk d (by simp[zao,hd])⟩,hK.le.2.2⟩
 ·have h1:=zaC (f:=equT) (sz:=7) hu
  have h2:=zaC (f:=T.s) (sz:=1) hs
  have h3:(T.sl 1 (u.left.map T.s)).w≤(equT u).w:=by
   rw[show equT u= .ag (.sl 1 (u.left.map T.s)::exC u.right) from rfl,w_ag,List.map_cons,List.sum_cons];omega
  rw[w_s]at h2
  omega
 ·rcases List.mem_append.1 he with he|he
  ·exact arr (hT.assume e he)
  ·exact arr (hT.ensure e he)
 ·have:=(za6 hd).1
  omega
theorem zme(p:Prog)(hw:(T.ag (zav p)).w≤100000000):Pure Tryz.prog 25 [.t (.ag (zav p))] (.tup [.t (.ag [T.i (zaF p).1.1,T.i (zaF p).1.2]),.i (zaF p).2]):=by
 obtain⟨hP,hln,hpl⟩:=zbr hw
 have hc0:=zks p hw
 have hpn:=zhZ p (by omega)
 have hz:zcW p=false->zaF p=((-1,-1),2):=fun h=>by unfold zaF;rw[if_pos h]
 generalize zaF p=z at*
 have hpc:zav p=[.sl 2 (p.enums.map enT),zag p.nodes]:=rfl
 rw[hpc]at*
 generalize zcW p=pl at*
 cases pl with
 | false=>
   rw[hz rfl]
   refine so Tryz.func25 ?_
   repeat' (first|refine wu ?_|exact wkc|intro hc|refine wk2 ?_ ?_|refine wv hpn ?_|fail)
   exact wkr
 | true=>
   refine so Tryz.func25 ?_
   repeat' (first|refine wu ?_|exact wkc|intro hc|refine wk2 ?_ ?_|refine wv hpn ?_|refine wv hc0 ?_|fail)
   exact wkr
theorem zcm{p:Prog}(h:(zaF p).2=0):(zbi p).2=0:=(zqM h).2.1
theorem ziI{l:List Nod}{k:Nat}(h:k<l.length):zdh k (l.drop k)=if(zdR l[k]).2=true then(((k:Int),(zdR l[k]).1),12) else zdh (k+1) (l.drop (k+1)):=by
 rw[List.drop_eq_getElem_cons h,zdh]
set_option maxHeartbeats 2000000 in
theorem zcX (p:Prog) (hw:(T.ag (zav p)).w≤100000000):Pure Tryz.prog 9 [.t (.ag (zav p))] (.tup [.t (.ag [T.i (zbk p).1.1,T.i (zbk p).1.2]),.i (zbk p).2]):=by
 obtain⟨hP,hln,hpl⟩:=zbr hw
 have hml:(p.nodes.map nodT).length=p.nodes.length:=List.length_map _
 have hask:=zme p hw
 have hz:zbk p=zbk p:=rfl
 conv at hz=>rhs;unfold zbk
 generalize zbk p=z at hz⊢
 have hnk:=fun h n hn=>zh6 (p:=p) (zcm h) hn (hln n hn)
 generalize zaF p=t at*
 obtain⟨⟨t1,t2⟩,t3⟩:=t
 simp only at hz hask hnk
 have hpc:zav p=[.sl 2 (p.enums.map enT),zag p.nodes]:=rfl
 rw[hpc]at*
 by_cases h3:t3=0
 ·rw[if_neg (by simp[h3])]at hz
  have hnk:=hnk h3
  refine so Tryz.func9 ?_
  repeat' (first|refine wkt ?_|refine wka ?_|refine wk ?_|exact wkc|intro hc|refine wk2 ?_ ?_|refine wv hask ?_|fail)
  refine TR.zal p.nodes.length (fun k=>zdh 0 p.nodes=zdh k (p.nodes.drop k)) (fun k=>[(2,.ref 0 0),(20,.t (zag p.nodes)),(21,.i (p.nodes.map nodT).length),(22,.i k)]) (fun _=>[.cells [.i 0,.i 0]]) rfl (fun k hlt ha=>?_) (fun ha=>?_)
  ·have hx:=zb7 hlt
   have hmem:=List.getElem_mem hlt
   rw[ziI hlt]at ha
   have hs:=zm0 p.nodes[k] (hnk _ hmem)
   generalize zdR p.nodes[k]=r at*
   obtain⟨r1,r2⟩:=r
   generalize p.nodes[k]=n at*
   unfold nodC at*
   simp only at ha hs
   cases r2 with
   | true=>
     rw[if_pos rfl]at ha
     rw[ha]at hz
     subst hz
     repeat' (first|refine wkt ?_|refine wka ?_|refine wk ?_|exact wkc|intro hc|refine wk2 ?_ ?_|refine wv hs ?_|fail)
     (repeat' (first|refine zab.ret ?_|refine wk ?_|fail))
     exact wkr
   | false=>
     rw[if_neg (by decide)]at ha
     repeat' (first|refine wkt ?_|refine wka ?_|refine wk ?_|exact wkc|intro hc|refine wk2 ?_ ?_|refine wv hs ?_|fail)
     exact zab.zhs 1 hlt ha rfl rfl rfl rfl rfl
  ·rw[List.drop_of_length_le (Nat.le_refl _)]at ha
   rw[ha]at hz
   subst hz
   repeat' (first|refine wu ?_|exact wkc|intro hc|refine wk2 ?_ ?_|fail)
   exact wkr
 ·rw[if_pos h3]at hz
  subst hz
  refine so Tryz.func9 ?_
  repeat' (first|refine wkt ?_|refine wka ?_|refine wk ?_|exact wkc|intro hc|refine wk2 ?_ ?_|refine wv hask ?_|fail)
  all_goals first
   | exact wkr
   | (exfalso;omega)
end Go.Proofs.YtcbhlhmebbkgnaaGreat
namespace Go.TL
open Go
section rules
variable {P:Program}{n:Nat}{env:Env}{H:Heap}{K:TK}{tab:Tab}
variable {all:Array Oper}{rest:List Oper}{d:Nat}{ty:TypeId}{pos:String}{aft:Array Edge}
end rules
section rules
variable {P:Program}{all:Array Oper}
def znm(P:Program)(n:Nat)(all:Array Oper)(full:Env)(G:List Heap):List Oper->List (SV×Bool)->List Heap->Prop
 | [],[],_=>True
 | o::l,(v,false)::t,hs=>(∀H∈G,∀env,TO false P n all [o] (za8 full (slotsOf all o)++env) H (NK (putE o.dst v (za8 full (slotsOf all o)++env)) H))/\znm P n all full G l t hs
 | o::l,(v,true)::t,H1::H2::hs=>(∀env,TO false P n all [o] (za8 full (slotsOf all o)++env) H1 (NK (putE o.dst v (za8 full (slotsOf all o)++env)) H2))/\znm P n all full G l t (H2::hs)
 | _,_,_=>False
theorem znm.get{n:Nat}{full:Env}{G:List Heap}:∀ {l:List Oper} {t:List (SV×Bool)} {hs:List Heap},znm P n all full G l t hs->l.length=t.length/\∀(i:Nat) o v b,l[i]?=some o->t[i]?=some (v,b)->
   (b=false->∀H∈G,∀env,TO false P n all [o] (za8 full (slotsOf all o)++env) H (NK (putE o.dst v (za8 full (slotsOf all o)++env)) H))/\
   (b=true->∃H1 H2,hs[effs t i]?=some H1/\hs[effs t i+1]?=some H2/\∀env,TO false P n all [o] (za8 full (slotsOf all o)++env) H1 (NK (putE o.dst v (za8 full (slotsOf all o)++env)) H2))
 | [],[],hs,_=>by simp
 | o::l,(v,false)::t,hs,h=>by
   obtain⟨h1,h2⟩:=h
   obtain⟨g1,g2⟩:=znm.get h2
   refine⟨by simp[g1],fun i o' v' b' ho hv=>?_⟩
   cases i with
   | zero=>simp at ho hv;obtain⟨rfl,rfl⟩:=hv;subst ho;exact⟨fun _=>h1,fun e=>by cases e⟩
   | succ i=>
     have:=g2 i o' v' b' (by simpa using ho) (by simpa using hv)
     simpa [effs]using this
 | o::l,(v,true)::t,H1::H2::hs,h=>by
   obtain⟨h1,h2⟩:=h
   obtain⟨g1,g2⟩:=znm.get h2
   refine⟨by simp[g1],fun i o' v' b' ho hv=>?_⟩
   cases i with
   | zero=>simp at ho hv;obtain⟨rfl,rfl⟩:=hv;subst ho;exact⟨fun e=>by(cases e),fun _=>⟨H1,H2,rfl,rfl,h1⟩⟩
   | succ i=>
     have:=g2 i o' v' b' (by simpa using ho) (by simpa using hv)
     have e:effs ((v,true)::t) (i+1)=effs t i+1:=by simp[effs]
     rw[e]
     simpa using this
 | o::l,(v,true)::t,[],h=>by exact h.elim
 | o::l,(v,true)::t,[_],h=>by exact h.elim
 | [],_::_,_,h=>by exact h.elim
 | _::_,[],_,h=>by exact h.elim
theorem TR.ztJ{n:Nat}{env0 envF:Env}{H0 HF:Heap}{K:TK}{id':Nat}{l:List Oper}(t:List (SV×Bool))(hs:List Heap)(hm:P.follows .mixedOrders=true)(hB:mixB l.toArray (t.map (·.2))=true)(h0:hs[0]?=some H0)
  (hp:znm P n l.toArray (zcw l.toArray (t.map (·.1)) env0) hs l t hs)(hF:hs[((t.map (·.2)).filter id).length]?=some HF)(hE:zct (zcw l.toArray (t.map (·.1)) env0)=some envF)(hK:K .normal envF HF):
  TR P n (.region id' l.toArray true) env0 H0 K:=by
 obtain⟨g1,g2⟩:=hp.get
 intro φ m a h1 h2 h3 h4
 have hef:∀i,((t.map (·.2)).take i |>.filter id).length=effs t i:=by
  intro i
  unfold effs
  rw[<-List.map_take,List.filter_map,List.length_map]
  rfl
 have s0:Step m ⟨m.A,m.β,m.H,{ m.w with drawn:=m.w.drawn+1 }⟩/\HRel ⟨m.A,m.β,m.H,{ m.w with drawn:=m.w.drawn+1 }⟩:=zeL h2 ⟨rfl,rfl,rfl,Nat.le_refl _,fun _ _=>rfl⟩
 refine zbU (wpIn_region_any hm ?_)
 refine zkk [] (G:=fun _=>True) (vs:=t.map (·.1)) (fl:=t.map (·.2)) (hs:=hs) (m0:=m) (fun t ht=>by cases ht) hB (by simp[g1]) (by simp[g1]) ?_ ?_ hF (fun _=>by rw[zbO hE]at hK;exact hK) l.toArray.size (Array.replicate l.toArray.size false)
  ⟨m.A,m.β,m.H,{ m.w with drawn:=m.w.drawn+1 }⟩ a (by simp) ?_ ?_ ?_ s0.1 s0.2 ?_ (h4.step h2 s0.1)
 ·intro i o v ho hv hb c H hcH env
  obtain⟨⟨v',b⟩,hx,rfl⟩:∃x,t[i]?=some x/\x.1=v:=by simpa using hv
  have hb':b=false:=by
   rw[List.getD_eq_getElem?_getD,List.getElem?_map,hx]at hb
   simpa using hb
  exact((g2 i o v' b (by simpa using ho) hx).1 hb' H (List.mem_of_getElem? hcH) env).nkp trivial
 ·intro i o v ho hv hb
  obtain⟨⟨v',b⟩,hx,rfl⟩:∃x,t[i]?=some x/\x.1=v:=by simpa using hv
  have hb':b=true:=by
   rw[List.getD_eq_getElem?_getD,List.getElem?_map,hx]at hb
   simpa using hb
  have:=(g2 i o v' b (by simpa using ho) hx).2 hb'
  rw[hef]
  obtain⟨H1,H2,e1,e2,e3⟩:=this
  exact⟨H1,H2,e1,e2,fun env=>(e3 env).nkp trivial⟩
 ·intro i hi
  rw[Array.getElem?_replicate]at hi
  split at hi <;> cases hi
 ·unfold unl
  have:=List.length_filter_le (fun i=>(Array.replicate l.toArray.size false)[i]? == some false) (List.range l.toArray.size)
  simpa using this
 ·refine⟨0,fun i hi=>⟨fun h=>by omega,fun h=>?_⟩,Nat.zero_le _,by rw[h0];simp[h1],fun j h=>?_⟩
  all_goals
   rw[Array.getElem?_replicate]at h
   split at h <;> cases h
 ·have:envA l.toArray (t.map (·.1)) (fun i=>(Array.replicate l.toArray.size false).getD i false) (List.range l.toArray.size)=[]:=by
   have:∀x:List Nat,envA l.toArray (t.map (·.1)) (fun i=>(Array.replicate l.toArray.size false).getD i false) x=[]:=by
    intro x
    induction x with
    | nil=>rfl
    | cons i x ih=>
      have:(Array.replicate l.toArray.size false).getD i false=false:=by
       rw[Array.getD_eq_getD_getElem?,Array.getElem?_replicate]
       split <;> rfl
      simp only[envA,this,ih]
   exact this _
  rw[this,List.nil_append]
  exact h3.step h2 s0.1
end rules
end Go.TL
