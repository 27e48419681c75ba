import Derived.Test.YtjgmcnemcembmaaGreatDoorPk19
set_option linter.unusedSimpArgs false
set_option linter.unusedVariables false
namespace Go.Proofs.YtjgmcnemcembmaaGreatDoor
open Go Go.TL
attribute [local irreducible] TR TO Then InBlock RetK Sound LoopK Kf GG ThenL
abbrev lookB (es:List En)(n q:Int):Blk:=.cells [.t (ensT es),.i n,.i q]
abbrev failV (n q c:Int):SV:=.ifc 102 (.t (.ag [T.i n,T.i q,T.i c]))
abbrev LS (f:FuncId)(args:List SV)(es:List En)(n q c:Int):Prop:=Sound Tryz.prog f (.ref 0 0::args) [lookB es n q] (Err c (.tup []) (failV n q c) [lookB es n q])
theorem retF{rs:List ResultVar}{env:Env}{H:Heap}{es:List En}{n q c c':Int}(h0:c'≠0)(hc:c'=c)(hN:Nat.ble 1 H.length=true)(hb:blksUnder H.length H=true):
  RetK tab rs 1 (Err0 c (.tup []) (failV n q c) [lookB es n q] 1) (.panic (failV n q c')) env H:=by
 subst hc;exact RetK.errP h0 hN rfl hb
theorem retN{env:Env}{H:Heap}{es:List En}{n q c:Int}(hc:c=0)(hk:Nat.ble 1 H.length=true)(ht:H.take 1=[lookB es n q]):
  RetK tab [] 1 (Err0 c (.tup []) (failV n q c) [lookB es n q] 1) .normal env H:=RetK.errN (vs:=[]) hc rfl (Le.refl _) rfl hk rfl ht rfl
theorem we{G Q1 Q2:Prop}{f:FuncId}{cargs:List SV}{v pv:SV}{c:Int}{Hc H1:Heap}(hs:Sound Tryz.prog f cargs Hc (Err c v pv H1))(k1:Q1)(k2:Q2)(h:Sound Tryz.prog f cargs Hc (Err c v pv H1)->Hold Q1->Hold Q2->G:=by
  intro hs k1 k2
  first
  | (apply Go.TL.TO.callEN 1 hs;exact rfl;exact rfl;exact rfl;(repeat' (first|exact trivial|exact Go.TL.Le.refl _|refine And.intro ?_ ?_|exact Go.TL.Le.any _|exact Go.TL.Le.nil _|exact Go.TL.Le.own _ _ _|refine Go.TL.Le.tree rfl ?_|exact Go.TL.TLe.refl _|exact Go.TL.TLe.nil _|refine Go.TL.TLe.ags ?_|fail));exact rfl;exact rfl;exact rfl;exact rfl;exact rfl;exact rfl;exact rfl;exact rfl;exact rfl;exact k1.p;exact k2.p)
  | (apply Go.TL.TO.callEN 2 hs;exact rfl;exact rfl;exact rfl;(repeat' (first|exact trivial|exact Go.TL.Le.refl _|refine And.intro ?_ ?_|exact Go.TL.Le.any _|exact Go.TL.Le.nil _|exact Go.TL.Le.own _ _ _|refine Go.TL.Le.tree rfl ?_|exact Go.TL.TLe.refl _|exact Go.TL.TLe.nil _|refine Go.TL.TLe.ags ?_|fail));exact rfl;exact rfl;exact rfl;exact rfl;exact rfl;exact rfl;exact rfl;exact rfl;exact rfl;exact k1.p;exact k2.p)):G:=h hs ⟨k1⟩ ⟨k2⟩
theorem must_ok(es:List En)(n q e:Int):Sound Tryz.prog 49 [.ref 0 0,.b true,.i e] [lookB es n q] (fun r H'=>r= .ret (.tup [])/\H'=[lookB es n q]):=by
 refine so Tryz.func49 ?_
 repeat' (first|refine wu ?_|exact wkc|intro hc|refine wk2 ?_ ?_|fail)
 exact RetK.keepN 1 (vs:=[]) rfl (Le.refl _) rfl rfl rfl rfl rfl ⟨rfl,rfl⟩
theorem must_no(es:List En)(n q e:Int)(he:e≠0):LS 49 [.b false,.i e] es n q e:=by
 refine Sound.err rfl (fun _=>rfl) ?_
 refine so Tryz.func49 ?_
 repeat' (first|refine wu ?_|exact wkc|intro hc|refine wk2 ?_ ?_|(apply TO.makeInterface;exact rfl;kernel_rfl;exact rfl)|(apply TO.panic;exact rfl)|fail)
 exact retF he rfl rfl rfl
section
variable {n:Nat}{env:Env}{K:TK}{all:Array Oper}{rest:List Oper}{d:Nat}{ty:TypeId}{pos:String}{aft:Array Edge}{es:List En}{a q e:Int}{H Hr:Heap}{args:Array Operand}{ts:Array TypeId}
theorem TO.mustT(hd:Nat.ble (d+1) n=true)(ha:env.vals args.toList=some [.ref 0 0,.b true,.i e])(h1:H=lookB es a q::Hr)(k:TO false Tryz.prog n all rest ((d,.tup [])::env) H K):
  TO false Tryz.prog n all (⟨some d,.call { callee:=.value (.func 49),args:=args,argTypes:=ts },ty,pos,aft,none⟩::rest) env H K:=by
 subst h1
 exact TO.callD 1 (must_ok es a q e) hd rfl ha ⟨Le.refl _,Le.refl _,Le.refl _,trivial⟩ (by simp) rfl rfl rfl rfl rfl rfl (by simp[forceL_self]) k
theorem TO.mustF(hd:Nat.ble (d+1) n=true)(ha:env.vals args.toList=some [.ref 0 0,.b false,.i e])(h1:H=lookB es a q::Hr)(he:e≠0)(k:K (.panic (failV a q e)) env (.dead::Hr)):
  TO false Tryz.prog n all (⟨some d,.call { callee:=.value (.func 49),args:=args,argTypes:=ts },ty,pos,aft,none⟩::rest) env H K:=by
 subst h1
 exact TO.callEN 1 (must_no es a q e he) hd rfl ha ⟨Le.refl _,Le.refl _,Le.refl _,trivial⟩ (by simp) rfl rfl rfl rfl rfl rfl rfl (by simp[forceL_self];rfl) (fun h=>absurd h he) (fun _=>k)
end
theorem wm{G Q:Prop}(k:Q)(h:Hold Q->G:=by
  intro k
  first
  | (apply Go.Proofs.YtjgmcnemcembmaaGreatDoor.TO.mustT;exact rfl;exact rfl;exact rfl;exact k.p)
  | (apply Go.Proofs.YtjgmcnemcembmaaGreatDoor.TO.mustF;exact rfl;exact rfl;exact rfl;decide;exact k.p)
  | (apply Go.Proofs.YtjgmcnemcembmaaGreatDoor.TO.mustF;exact rfl;exact rfl;exact rfl;assumption;exact k.p)):G:=h ⟨k⟩
theorem identM_sound(es:List En)(n q:Int)(s:Str):LS 83 [.s s] es n q (identE s):=by
 refine Sound.err rfl (fun _=>rfl) ?_
 have hi:=ident_sound s
 unfold identE
 refine so Tryz.func83 ?_
 repeat' (first|refine wu ?_|exact wkc|intro hc|refine wk2 ?_ ?_|refine wb hi ?_ ?_|refine wm ?_|fail)
 ·exact retN (if_pos hc) rfl rfl
 ·apply retF
  ·decide
  ·rw[if_neg (by simp[hc])]
  ·exact rfl
  ·exact rfl
theorem right_sound(es:List En)(n q e:Int):LS 87 [.i e] es n q e:=by
 refine Sound.err rfl (fun _=>rfl) ?_
 refine so Tryz.func87 ?_
 repeat' (first|refine wu ?_|exact wkc|intro hc|refine wk2 ?_ ?_|refine wm ?_|fail)
 ·exact retN hc rfl rfl
 ·exact retF hc rfl rfl rfl
theorem firstE_at{α:Type}{f:α->Int}{l:List α}{k:Nat}(hk:k<l.length)(h:firstE f (l.take k)=0)(hn:f l[k]≠0):firstE f l=f l[k]:=by
 conv=>lhs;rw[<-List.take_append_drop k l]
 rw[firstE_append,if_pos h,List.drop_eq_getElem_cons hk,firstE,if_neg hn]
theorem firstE_next{α:Type}{f:α->Int}{l:List α}{k:Nat}(hk:k<l.length)(h:firstE f (l.take k)=0)(hz:f l[k]=0):firstE f (l.take (k+1))=0:=by
 rw[List.take_succ_eq_append_getElem hk,firstE_append,if_pos h,firstE,if_pos hz,firstE]
theorem firstE_all{α:Type}{f:α->Int}{l:List α}(h:firstE f (l.take l.length)=0):firstE f l=0:=by rwa [List.take_length]at h
theorem at_s{l:List Str}{k:Nat}(h:k<l.length):(l.map T.s)[k]?=some (T.s l[k]):=by simp[h]
theorem at_on{l:List OnC}{k:Nat}(h:k<l.length):(l.map onT)[k]?=some (.ag [.s l[k].name,T.n l[k].t,T.n l[k].tag]):=at_map onT h
theorem enumM_sound(es:List En)(n q:Int)(u:En)(hw:u.tags.length≤1000000000):LS 50 [.t (.ag [.s u.name,.sl 1 (u.tags.map T.s)])] es n q (enumE u):=by
 refine Sound.err rfl (fun _=>rfl) ?_
 have hi:=identM_sound es n q u.name
 have hml:(u.tags.map T.s).length=u.tags.length:=List.length_map _
 have hz:enumE u=enumE u:=rfl
 conv at hz=>rhs;unfold enumE orE
 generalize enumE u=z at hz⊢
 refine so Tryz.func50 ?_
 repeat' (first|refine wu ?_|exact wkc|intro hc|refine wk2 ?_ ?_|refine we hi ?_ ?_|refine wm ?_|fail)
 all_goals first
  | (apply retF;assumption;(rw[hz];clear hi;grind);exact rfl;exact rfl)
  | (apply retF;decide;(rw[hz];clear hi;grind);exact rfl;exact rfl)
  | skip
 have hz2:z=firstE identE u.tags:=by rw[hz];clear hi;grind
 clear hz
 generalize u.tags=l at*
 refine TR.loopN l.length (fun k=>firstE identE (l.take k)=0) (fun k=>[(0,.ref 0 0),(23,.t (.sl 1 (l.map T.s))),(24,.i (l.map T.s).length),(25,.i k)]) (fun _=>[lookB es n q]) rfl (fun k hlt ha=>?_) (fun ha=>?_)
 ·have hx:=at_s hlt
  have h1:=firstE_at (f:=identE) hlt ha
  have h2:=firstE_next (f:=identE) hlt ha
  generalize l[k]=x at*
  have hs:=identM_sound es n q x
  repeat' (first|refine wu ?_|exact wkc|intro hc|refine wk2 ?_ ?_|refine we hs ?_ ?_|fail)
  ·exact LoopK.nextN hlt (h2 hc)
  ·refine LoopK.panic ?_
   repeat' (first|refine wu ?_|exact wkc|intro hc|refine wk2 ?_ ?_|fail)
   exact retF hc (by rw[hz2,h1 hc]) rfl rfl
 ·repeat' (first|refine wu ?_|exact wkc|intro hc|refine wk2 ?_ ?_|fail)
  exact retN (by rw[hz2,firstE_all ha]) rfl rfl
theorem declsM_sound(es:List En)(n q:Int)(l:List Decl)(port:Bool)(hw:(declsT l).w≤1000000000):LS 84 [.t (declsT l),.b port] es n q (firstE (declE es port) l):=by
 refine Sound.err rfl (fun _=>rfl) ?_
 have hml:(l.map declT).length=l.length:=List.length_map _
 have hlb:l.length≤1000000000:=Nat.le_trans (Nat.le_of_lt (w_lenM declT 3 l)) hw
 refine so Tryz.func84 ?_
 repeat' (first|refine wu ?_|exact wkc|intro hc|refine wk2 ?_ ?_|fail)
 refine TR.loopN l.length (fun k=>firstE (declE es port) (l.take k)=0) (fun k=>[(0,.ref 0 0),(2,.b port),(10,.t (declsT l)),(11,.i (l.map declT).length),(12,.i k)]) (fun _=>[lookB es n q]) rfl (fun k hlt ha=>?_) (fun ha=>?_)
 ·have hx:=at_decl hlt
  have h1:=firstE_at (f:=declE es port) hlt ha
  have h2:=firstE_next (f:=declE es port) hlt ha
  have hcl:=w_lenM onT 3 l[k].clock
  have hwx:=w_inM (f:=declT) (sz:=3) (List.getElem_mem hlt)
  rw[show declT l[k]= .ag (declC l[k]) from rfl,w_ag]at hwx
  generalize l[k]=x at*
  simp only[declC,List.map_cons,List.map_nil,List.sum_cons,List.sum_nil]at hwx
  have hmo:(x.clock.map onT).length=x.clock.length:=List.length_map _
  have hs:=identM_sound es n q x.name
  have hsz:=size_sound es x.ty
  unfold declC at hx
  have hz:declE es port x=declE es port x:=rfl
  conv at hz=>rhs;unfold declE orE
  generalize declE es port x=z at hz h1 h2
  cases port
  all_goals
   repeat' (first|refine wu ?_|exact wkc|intro hc|refine wk2 ?_ ?_|refine we hs ?_ ?_|refine wm ?_|refine wv hsz ?_|fail)
  all_goals first
   | (refine LoopK.panic ?_
      refine wk ?_
      apply retF
      first|assumption|decide
      ·clear hs hsz;grind
      exact rfl
      exact rfl)
   | skip
  all_goals
   have hz2:z=firstE (onE es) x.clock:=by clear hs hsz;grind
   clear hz hs hsz
   generalize x.clock=cl at*
   refine TR.loopN cl.length (fun j=>firstE (onE es) (cl.take j)=0) (fun j=>[(0,.ref 0 0),(2,.b _),(10,.t (declsT l)),(11,.i (l.map declT).length),(12,.i k),(47,.t (.sl 3 (cl.map onT))),(48,.i (cl.map onT).length),(49,.i j)]) (fun _=>[lookB es n q]) rfl (fun j hlt2 ha2=>?_) (fun ha2=>?_)
   ·have hx2:=at_on hlt2
    have g1:=firstE_at (f:=onE es) hlt2 ha2
    have g2:=firstE_next (f:=onE es) hlt2 ha2
    generalize cl[j]=o at*
    have hs:=identM_sound es n q o.name
    have hh:=has_sound es o.t o.tag
    have hz:onE es o=onE es o:=rfl
    conv at hz=>rhs;unfold onE orE
    generalize onE es o=z3 at hz g1 g2
    repeat' (first|refine wu ?_|exact wkc|intro hc|refine wk2 ?_ ?_|refine we hs ?_ ?_|refine wm ?_|refine wb hh ?_ ?_|fail)
    all_goals first
     | exact LoopK.nextN hlt2 (g2 (by clear hs hh;grind))
     | (refine LoopK.panic ?_
        refine wk ?_
        refine LoopK.panic ?_
        refine wk ?_
        apply retF
        first|assumption|decide
        ·clear hs hh;grind
        exact rfl
        exact rfl)
   ·have hz3:=firstE_all ha2
    refine wk ?_
    repeat' (first|refine wu ?_|exact wkc|intro hc|refine wk2 ?_ ?_|fail)
    exact LoopK.nextN hlt (h2 (by rw[hz2,hz3]))
 ·repeat' (first|refine wu ?_|exact wkc|intro hc|refine wk2 ?_ ?_|fail)
  exact retN (firstE_all ha) rfl rfl
def allF(g:Ex->Bool)(H1:Heap)(_:List Ex)(x:Ex):Out:=if g x=true then .go else .jump .ret H1
theorem scan_all(g:Ex->Bool)(H1:Heap):∀(l pre:List Ex),scanO (allF g H1) pre l=if l.all g=true then .go else .jump .ret H1
 | [],pre=>by simp[scanO]
 | x::l,pre=>by
   simp only[scanO,allF,List.all_cons,Bool.and_eq_true]
   by_cases h:g x=true
   ·simp only[h,if_true,true_and];exact scan_all g H1 l _
   ·simp[h]
theorem stateless_sound(e:Ex)(h:wEx e≤1000000000):Pure Tryz.prog 142 [.t (.ag (exC e))] (.b (sless e)):=by
 have hs:=Each_sound e
 rw[exT_eq]at hs
 have hc0:exC e=[T.n e.kind,T.n e.op,T.n e.t,T.n e.v,.s e.name,.sl 6 (e.args.map exT)]:=rfl
 rw[hc0]at hs⊢
 unfold sless
 refine so Tryz.func142 ?_
 repeat' (first|refine wkb ?_|refine wk ?_|exact wkc|intro hc|refine wk2 ?_ ?_|refine wv hs ?_|fail)
 refine TR.rangeEach e (fun _=>[.cells [.b false]]) (allF (fun x=>slessI x.kind.1) [.cells [.b false]]) rfl h rfl rfl rfl (fun _=>⟨rfl,rfl⟩) (fun pre x=>?_) (fun fn pre x post hw=>?_) (fun fn=>?_)
 ·unfold allF
  split <;> rename_i hq <;> split at hq <;> cases hq
  ·trivial
  ·exact⟨rfl,rfl⟩
 ·have hcx:exC x=[T.n x.kind,T.n x.op,T.n x.t,T.n x.v,.s x.name,.sl 6 (x.args.map exT)]:=rfl
  rw[hcx]
  repeat' (first|refine wu ?_|exact wkc|intro hc|refine wk2 ?_ ?_|fail)
  refine⟨rfl,?_⟩
  repeat' (first|refine wu ?_|exact wkc|intro hc|refine wk2 ?_ ?_|fail)
  all_goals first
   | (refine⟨_,?_,rfl,rfl⟩
      rw[allF,if_neg (by clear hs hc0 hcx;simp[slessI];omega)]
      rfl)
   | (refine⟨?_,rfl,rfl⟩
      rw[allF,if_pos (by clear hs hc0 hcx;simp[slessI];omega)])
 ·rw[scan_all]
  by_cases h2:((flat e).all fun x=>slessI x.kind.1)=true
  ·rw[if_pos h2,h2]
   repeat' (first|refine wu ?_|exact wkc|intro hc|refine wk2 ?_ ?_|fail)
   exact wkr
  ·rw[if_neg h2,Bool.not_eq_true _ |>.mp h2]
   simp only[]
   repeat' (first|refine wu ?_|exact wkc|intro hc|refine wk2 ?_ ?_|fail)
   exact wkr
def cnt(l:List Ex)(k:Int):Nat:=(l.filter fun x=>decide (x.kind.1=k)).length
theorem count_sound(e:Ex)(h:wEx e≤1000000000)(kd:Int):Pure Tryz.prog 162 [.t (.ag (exC e)),.i kd] (.i (cnt (flat e) kd)):=by
 have hls:=List_sound e h
 have hll:=flat_len e
 rw[exT_eq]at*
 have hc0:exC e=[T.n e.kind,T.n e.op,T.n e.t,T.n e.v,.s e.name,.sl 6 (e.args.map exT)]:=rfl
 rw[hc0]at hls⊢
 refine so Tryz.func162 ?_
 repeat' (first|refine wu ?_|exact wkc|intro hc|refine wk2 ?_ ?_|refine wv hls ?_|fail)
 generalize flat e=l at hll⊢
 have hml:(l.map exT).length=l.length:=List.length_map _
 refine TR.loopN l.length (fun _=>True) (fun k=>[(1,.i kd),(5,.i (cnt (l.take k) kd)),(6,.t (.sl 6 (l.map exT))),(7,.i k)]) (fun _=>[]) trivial (fun k hlt _=>?_) (fun _=>?_)
 ·have hx:=at_exT hlt
  have hn:cnt (l.take (k+1)) kd=cnt (l.take k) kd+if l[k].kind.1=kd then 1 else 0:=by
   unfold cnt;rw[List.take_succ_eq_append_getElem hlt,List.filter_append]
   by_cases hk:l[k].kind.1=kd <;> simp[hk]
  have hle:cnt (l.take k) kd≤k:=by
   unfold cnt
   have h1:=List.length_filter_le (fun x:Ex=>decide (x.kind.1=kd)) (l.take k)
   have h2:(l.take k).length≤k:=by simp;omega
   omega
  generalize l[k]=x at*
  have hcx:exC x=[T.n x.kind,T.n x.op,T.n x.t,T.n x.v,.s x.name,.sl 6 (x.args.map exT)]:=rfl
  rw[hcx]at hx
  repeat' (first|refine wu ?_|exact wkc|intro hc|refine wk2 ?_ ?_|fail)
  ·rw[if_pos hc]at hn
   refine LoopK.nextN hlt trivial ?_
   rw[hn];exact⟨rfl,rfl,rfl,rfl,trivial⟩
  ·rw[if_neg hc]at hn
   refine LoopK.nextN hlt trivial ?_
   rw[hn];exact⟨rfl,rfl,rfl,rfl,trivial⟩
 ·repeat' (first|refine wu ?_|exact wkc|intro hc|refine wk2 ?_ ?_|fail)
  rw[List.take_length]
  exact wkr
theorem cnt_cons(x:Ex)(l:List Ex)(k:Int):cnt (x::l) k=cnt l k+if x.kind.1=k then 1 else 0:=by
 unfold cnt;by_cases h:x.kind.1=k <;> simp[h]
theorem cnt_zero(l:List Ex):(cnt l 5+cnt l 6+cnt l 7+cnt l 10+cnt l 11=0) ↔ (l.all fun x=>slessI x.kind.1)=true:=by
 induction l with
 | nil=>simp[cnt]
 | cons x l ih=>
   rw[List.all_cons,Bool.and_eq_true,<-ih]
   simp only[cnt_cons,slessI,decide_eq_true_eq]
   repeat' split
   all_goals omega
theorem statelessR_sound(e:Ex)(h:wEx e≤1000000000):Pure Tryz.prog 158 [.t (.ag (exC e))] (.b (sless e)):=by
 have h5:=count_sound e h 5
 have h6:=count_sound e h 6
 have h7:=count_sound e h 7
 have h10:=count_sound e h 10
 have h11:=count_sound e h 11
 have hz:=cnt_zero (flat e)
 have hle:∀k,cnt (flat e) k≤1000000000:=fun k=>Nat.le_trans (List.length_filter_le _ _) (by rw[flat_len];exact h)
 have l5:=hle 5
 have l6:=hle 6
 have l7:=hle 7
 have l10:=hle 10
 have l11:=hle 11
 unfold sless
 generalize ((flat e).all fun x=>slessI x.kind.1)=b at*
 unfold exC at*
 refine so Tryz.func158 ?_
 repeat' (first|refine wu ?_|exact wkc|intro hc|refine wk2 ?_ ?_|refine wv h5 ?_|refine wv h6 ?_|refine wv h7 ?_|refine wv h10 ?_|refine wv h11 ?_|fail)
 all_goals
  refine RetK.pure rfl (Le.of_eq ?_) rfl
  refine congrArg (fun b=>SV.t (T.v (Value.bool b))) ?_
  clear h5 h6 h7 h10 h11
 ·exact(hz.1 (by omega)).symm
 ·cases b with
  | false=>rfl
  | true=>have:=hz.2 rfl;omega
theorem wEx_equ{q:Equ}:wEx q.right≤(equT q).w:=by
 have h:=wEx_le q.right
 rw[exT_eq,w_ag]at h
 rw[show equT q= .ag (.sl 1 (q.left.map T.s)::exC q.right) from rfl,w_ag,List.map_cons,List.sum_cons]
 have:=w_pos (.sl 1 (q.left.map T.s))
 omega
theorem left_equ{q:Equ}:q.left.length≤(equT q).w:=by
 have h:=w_lenM T.s 1 q.left
 rw[show equT q= .ag (.sl 1 (q.left.map T.s)::exC q.right) from rfl,w_ag,List.map_cons,List.sum_cons]
 omega
def equC(q:Equ):List T:=.sl 1 (q.left.map T.s)::[T.n q.right.kind,T.n q.right.op,T.n q.right.t,T.n q.right.v,.s q.right.name,.sl 6 (q.right.args.map exT)]
theorem at_equ{l:List Equ}{k:Nat}(h:k<l.length):(l.map equT)[k]?=some (.ag (equC l[k])):=at_map equT h
theorem equM_sound(es:List En)(n q:Int)(u:Equ)(hw:(equT u).w≤1000000000):LS 85 [.t (.ag (equC u))] es n q (equE es u):=by
 refine Sound.err rfl (fun _=>rfl) ?_
 have hx:=exprX_sound es u.right (Nat.le_trans wEx_equ hw)
 have hlb:u.left.length≤1000000000:=Nat.le_trans left_equ hw
 have hml:(u.left.map T.s).length=u.left.length:=List.length_map _
 have hr:=right_sound es n q (exprX es u.right)
 have hz:equE es u=equE es u:=rfl
 conv at hz=>rhs;unfold equE orE
 rw[exT_eq]at hx
 unfold exC at hx
 unfold equC
 generalize equE es u=z at hz⊢
 generalize exprX es u.right=xe at*
 refine so Tryz.func85 ?_
 repeat' (first|refine wu ?_|exact wkc|intro hc|refine wk2 ?_ ?_|refine wm ?_|fail)
 all_goals first
  | ((repeat' (first|refine LoopK.panic ?_|refine wk ?_|fail));apply retF;(first|assumption|decide);(clear hr hx;grind);exact rfl;exact rfl)
  | skip
 generalize u.left=l at*
 refine TR.loopN l.length (fun k=>firstE identE (l.take k)=0) (fun k=>[(0,.ref 0 0),(3,.cp [.sl 1 (l.map T.s),T.n u.right.kind,T.n u.right.op,T.n u.right.t,T.n u.right.v,.s u.right.name,.sl 6 (u.right.args.map exT)] 0),(19,.t (.sl 1 (l.map T.s))),(20,.i (l.map T.s).length),(21,.i k)]) (fun _=>[lookB es n q]) rfl (fun k hlt ha=>?_) (fun ha=>?_)
 ·have hx:=at_s hlt
  have h1:=firstE_at (f:=identE) hlt ha
  have h2:=firstE_next (f:=identE) hlt ha
  generalize l[k]=x at*
  have hs:=identM_sound es n q x
  repeat' (first|refine wu ?_|exact wkc|intro hc|refine wk2 ?_ ?_|refine we hs ?_ ?_|fail)
  all_goals first
   | exact LoopK.nextN hlt (h2 hc)
   | ((repeat' (first|refine LoopK.panic ?_|refine wk ?_|fail));apply retF;(first|assumption|decide);(clear hr hx hs;grind);exact rfl;exact rfl)
 ·have h1:=firstE_all ha
  repeat' (first|refine wu ?_|exact wkc|intro hc|refine wk2 ?_ ?_|refine wv hx ?_|refine we hr ?_ ?_|refine wm ?_|fail)
  all_goals first
   | ((repeat' (first|refine LoopK.panic ?_|refine wk ?_|fail));apply retF;(first|assumption|decide);(clear hr hx;grind);exact rfl;exact rfl)
   | exact retN (by clear hr hx;grind) rfl rfl
def tranC(t:Tran):List T:=[T.n t.cond.kind,T.n t.cond.op,T.n t.cond.t,T.n t.cond.v,.s t.cond.name,.sl 6 (t.cond.args.map exT),T.n t.to,.b t.resume]
theorem at_tran{l:List Tran}{k:Nat}(h:k<l.length):(l.map tranT)[k]?=some (.ag (tranC l[k])):=at_map tranT h
theorem wEx_tran{t:Tran}:wEx t.cond≤(tranT t).w:=by
 have h:=wEx_le t.cond
 rw[exT_eq,w_ag]at h
 rw[show tranT t= .ag (tranC t) from rfl,w_ag]
 simp only[exC,tranC,List.map_cons,List.map_nil,List.sum_cons,List.sum_nil]at*
 omega
theorem transM_sound(es:List En)(n q:Int)(l:List Tran)(states:Int)(strong:Bool)(hw:(T.sl 8 (l.map tranT)).w≤1000000000):LS 117 [.t (.sl 8 (l.map tranT)),.i states,.b strong] es n q (firstE (tranE es states strong) l):=by
 refine Sound.err rfl (fun _=>rfl) ?_
 have hml:(l.map tranT).length=l.length:=List.length_map _
 have hlb:l.length≤1000000000:=Nat.le_trans (Nat.le_of_lt (w_lenM tranT 8 l)) hw
 refine so Tryz.func117 ?_
 repeat' (first|refine wu ?_|exact wkc|intro hc|refine wk2 ?_ ?_|fail)
 refine TR.loopN l.length (fun k=>firstE (tranE es states strong) (l.take k)=0) (fun k=>[(0,.ref 0 0),(2,.i states),(3,.b strong),(10,.t (.sl 8 (l.map tranT))),(11,.i (l.map tranT).length),(12,.i k)]) (fun _=>[lookB es n q]) rfl (fun k hlt ha=>?_) (fun ha=>?_)
 ·have hx:=at_tran hlt
  have h1:=firstE_at (f:=tranE es states strong) hlt ha
  have h2:=firstE_next (f:=tranE es states strong) hlt ha
  have hwx:=w_inM (f:=tranT) (sz:=8) (List.getElem_mem hlt)
  generalize l[k]=x at*
  have hwe:wEx x.cond≤1000000000:=by have:=wEx_tran (t:=x);omega
  have hex:=exprX_sound es x.cond hwe
  have hst:=stateless_sound x.cond hwe
  rw[exT_eq]at hex
  unfold exC at hex hst
  unfold tranC at hx
  have hr:=right_sound es n q (exprX es x.cond)
  have hz:tranE es states strong x=tranE es states strong x:=rfl
  conv at hz=>rhs;unfold tranE orE
  generalize tranE es states strong x=z at*
  generalize exprX es x.cond=xe at*
  generalize sless x.cond=sl at*
  cases strong
  all_goals
   repeat' (first|refine wu ?_|exact wkc|intro hc|refine wk2 ?_ ?_|refine wm ?_|refine wv hex ?_|refine we hr ?_ ?_|refine wb hst ?_ ?_|fail)
  all_goals first
   | exact LoopK.nextN hlt (h2 (by clear hex hst hr;grind))
   | ((repeat' (first|refine LoopK.panic ?_|refine wk ?_|fail));apply retF;(first|assumption|decide);(clear hex hst hr hx;grind);exact rfl;exact rfl)
 ·repeat' (first|refine wu ?_|exact wkc|intro hc|refine wk2 ?_ ?_|fail)
  exact retN (firstE_all ha) rfl rfl
def autoC(a:Auto):List T:=[.sl 6 (a.states.map staT)]
theorem autoT_C(a:Auto):autoT a= .ag (autoC a):=autoT_eq a
def staC(s:Sta):List T:=[.s s.name,declsT s.locals,.sl 7 (s.eqs.map equT),.sl 1 (s.autos.map autoT),.sl 8 (s.unl.map tranT),.sl 8 (s.unt.map tranT)]
theorem staT_C(s:Sta):staT s= .ag (staC s):=staT_eq s
theorem at_sta{l:List Sta}{k:Nat}(h:k<l.length):(l.map staT)[k]?=some (.ag (staC l[k])):=by rw[<-staT_C];exact at_map staT h
theorem at_auto{l:List Auto}{k:Nat}(h:k<l.length):(l.map autoT)[k]?=some (.ag (autoC l[k])):=by rw[<-autoT_C];exact at_map autoT h
theorem w_sta(s:Sta):(declsT s.locals).w+(T.sl 7 (s.eqs.map equT)).w+(T.sl 1 (s.autos.map autoT)).w+(T.sl 8 (s.unl.map tranT)).w+(T.sl 8 (s.unt.map tranT)).w≤(staT s).w:=by
 rw[staT_C,w_ag];simp only[staC,List.map_cons,List.map_nil,List.sum_cons,List.sum_nil];omega
theorem w_auto(a:Auto):(T.sl 6 (a.states.map staT)).w≤(autoT a).w:=by
 rw[autoT_C,w_ag];simp only[autoC,List.map_cons,List.map_nil,List.sum_cons,List.sum_nil];omega
theorem autoM_sound'(es:List En)(n q:Int):∀(k:Nat) (d:Int),k≤3->d+k=3->∀(a:Auto),(autoT a).w≤1000000000->LS 86 [.t (.ag (autoC a)),.i d] es n q (autoE es k a)
 | 0,d,_,hd,a,_=>by
   refine Sound.err rfl (fun _=>rfl) ?_
   unfold autoE autoC
   refine so Tryz.func86 ?_
   repeat' (first|refine wu ?_|exact wkc|intro hc|refine wk2 ?_ ?_|refine wm ?_|fail)
   ·apply retF
    ·decide
    ·rfl
    ·exact rfl
    ·exact rfl
 | k+1,d,hk3,hd,a,hw=>by
   have ih:∀x,(autoT x).w≤1000000000->LS 86 [.t (.ag (autoC x)),.i (d+1)] es n q (autoE es k x):=fun x hx=>autoM_sound' es n q k (d+1) (by omega) (by omega) x hx
   refine Sound.err rfl (fun _=>rfl) ?_
   have hwa:=w_auto a
   have hlb:a.states.length≤1000000000:=by have:=w_lenM staT 6 a.states;omega
   have hml:(a.states.map staT).length=a.states.length:=List.length_map _
   have hz:autoE es (k+1) a=autoE es (k+1) a:=rfl
   conv at hz=>rhs;unfold autoE orE
   generalize autoE es (k+1) a=z at hz⊢
   generalize autoE es k=F at*
   unfold autoC
   generalize a.states=l at*
   refine so Tryz.func86 ?_
   repeat' (first|refine wu ?_|exact wkc|intro hc|refine wk2 ?_ ?_|refine wm ?_|fail)
   all_goals first
    | ((repeat' (first|refine LoopK.panic ?_|refine wk ?_|fail));apply retF;(first|assumption|decide);(clear ih;grind);exact rfl;exact rfl)
    | (exfalso;omega)
    | skip
   have hz2:z=firstE (stE es F (l.length:Int)) l:=by clear ih;grind
   clear hz
   refine TR.loopN l.length (fun k=>firstE (stE es F (l.length:Int)) (l.take k)=0) (fun k=>[(0,.ref 0 0),(2,.i d),(4,.cp [.sl 6 (l.map staT)] 0),(29,.t (.sl 6 (l.map staT))),(30,.i (l.map staT).length),(31,.i k)]) (fun _=>[lookB es n q]) rfl (fun j hlt ha=>?_) (fun ha=>?_)
   ·have hx:=at_sta hlt
    have h1:=firstE_at (f:=stE es F (l.length:Int)) hlt ha
    have h2:=firstE_next (f:=stE es F (l.length:Int)) hlt ha
    have hwx:=w_inM (f:=staT) (sz:=6) (List.getElem_mem hlt)
    generalize l[j]=x at*
    have hws:=w_sta x
    have hl1:=w_lenM equT 7 x.eqs
    have hl2:=w_lenM autoT 1 x.autos
    have m1:(x.locals.map declT).length=x.locals.length:=List.length_map _
    have m2:(x.eqs.map equT).length=x.eqs.length:=List.length_map _
    have m3:(x.autos.map autoT).length=x.autos.length:=List.length_map _
    have m4:(x.unl.map tranT).length=x.unl.length:=List.length_map _
    have m5:(x.unt.map tranT).length=x.unt.length:=List.length_map _
    have hi:=identM_sound es n q x.name
    have hd1:=declsM_sound es n q x.locals false (by omega)
    have ht1:=transM_sound es n q x.unl (l.length:Int) true (by omega)
    have ht2:=transM_sound es n q x.unt (l.length:Int) false (by omega)
    rw[<-hml]at ht1 ht2
    have hz:stE es F (l.length:Int) x=stE es F (l.length:Int) x:=rfl
    conv at hz=>rhs;unfold stE orE
    have heq:∀u,u∈x.eqs->LS 85 [.t (.ag (equC u))] es n q (equE es u):=fun u hu=>equM_sound es n q u (by have:=w_inM (f:=equT) (sz:=7) hu;omega)
    have hau:∀u,u∈x.autos->LS 86 [.t (.ag (autoC u)),.i (d+1)] es n q (F u):=fun u hu=>ih u (by have:=w_inM (f:=autoT) (sz:=1) hu;omega)
    clear ih
    generalize stE es F (l.length:Int) x=zs at hz h1 h2
    rw[<-hml]at hz
    unfold staC at hx
    repeat' (first|refine wu ?_|exact wkc|intro hc|refine wk2 ?_ ?_|refine wm ?_|refine we hi ?_ ?_|refine we hd1 ?_ ?_|fail)
    all_goals first
     | ((repeat' (first|refine LoopK.panic ?_|refine wk ?_|fail));apply retF;(first|assumption|decide);(clear hi hd1 ht1 ht2 heq hau hx;grind);exact rfl;exact rfl)
     | skip
    refine TR.loopN x.eqs.length (fun i=>firstE (equE es) (x.eqs.take i)=0) (fun i=>[(0,.ref 0 0),(2,.i d),(4,.cp [.sl 6 (l.map staT)] 0),(29,.t (.sl 6 (l.map staT))),(30,.i (l.map staT).length),(31,.i j),(7,.cp [.s x.name,declsT x.locals,.sl 7 (x.eqs.map equT),.sl 1 (x.autos.map autoT),.sl 8 (x.unl.map tranT),.sl 8 (x.unt.map tranT)] 0),(72,.t (.sl 7 (x.eqs.map equT))),(73,.i (x.eqs.map equT).length),(74,.i i)]) (fun _=>[lookB es n q]) rfl (fun i hlt2 ha2=>?_) (fun ha2=>?_)
    ·have hx2:=at_equ hlt2
     have g1:=firstE_at (f:=equE es) hlt2 ha2
     have g2:=firstE_next (f:=equE es) hlt2 ha2
     have hs:=heq _ (List.getElem_mem hlt2)
     generalize x.eqs[i]=u at*
     unfold equC at hx2 hs
     repeat' (first|refine wu ?_|exact wkc|intro hc|refine wk2 ?_ ?_|refine we hs ?_ ?_|fail)
     all_goals first
      | exact LoopK.nextN hlt2 (g2 hc)
      | ((repeat' (first|refine LoopK.panic ?_|refine wk ?_|fail));apply retF;(first|assumption|decide);(clear hi hd1 ht1 ht2 heq hau hx hx2 hs;grind);exact rfl;exact rfl)
    have he2:=firstE_all ha2
    refine wk ?_
    repeat' (first|refine wu ?_|exact wkc|intro hc|refine wk2 ?_ ?_|fail)
    refine TR.loopN x.autos.length (fun i=>firstE F (x.autos.take i)=0) (fun i=>[(0,.ref 0 0),(2,.i d),(4,.cp [.sl 6 (l.map staT)] 0),(29,.t (.sl 6 (l.map staT))),(30,.i (l.map staT).length),(31,.i j),(7,.cp [.s x.name,declsT x.locals,.sl 7 (x.eqs.map equT),.sl 1 (x.autos.map autoT),.sl 8 (x.unl.map tranT),.sl 8 (x.unt.map tranT)] 0),(83,.t (.sl 1 (x.autos.map autoT))),(84,.i (x.autos.map autoT).length),(85,.i i)]) (fun _=>[lookB es n q]) rfl (fun i hlt2 ha2=>?_) (fun ha2=>?_)
    ·have hx2:=at_auto hlt2
     have g1:=firstE_at (f:=F) hlt2 ha2
     have g2:=firstE_next (f:=F) hlt2 ha2
     have hs:=hau _ (List.getElem_mem hlt2)
     generalize x.autos[i]=u at*
     unfold autoC at hx2 hs
     repeat' (first|refine wu ?_|exact wkc|intro hc|refine wk2 ?_ ?_|refine we hs ?_ ?_|fail)
     all_goals first
      | exact LoopK.nextN hlt2 (g2 hc)
      | ((repeat' (first|refine LoopK.panic ?_|refine wk ?_|fail));apply retF;(first|assumption|decide);(clear hi hd1 ht1 ht2 heq hau hx hx2 hs;grind);exact rfl;exact rfl)
    have he3:=firstE_all ha2
    refine wk ?_
    repeat' (first|refine wu ?_|exact wkc|intro hc|refine wk2 ?_ ?_|refine we ht1 ?_ ?_|refine we ht2 ?_ ?_|fail)
    all_goals first
     | exact LoopK.nextN hlt (h2 (by clear hi hd1 ht1 ht2 heq hau hx;grind))
     | ((repeat' (first|refine LoopK.panic ?_|refine wk ?_|fail));apply retF;(first|assumption|decide);(clear hi hd1 ht1 ht2 heq hau hx;grind);exact rfl;exact rfl)
   ·repeat' (first|refine wu ?_|exact wkc|intro hc|refine wk2 ?_ ?_|fail)
    exact retN (by rw[hz2,firstE_all ha]) rfl rfl
theorem autoM_sound(es:List En)(n q:Int)(a:Auto)(hw:(autoT a).w≤1000000000):LS 86 [.t (.ag (autoC a)),.i 0] es n q (autoE es 3 a):=autoM_sound' es n q 3 0 (Nat.le_refl _) rfl a hw
end Go.Proofs.YtjgmcnemcembmaaGreatDoor
