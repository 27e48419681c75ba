import Derived.Test.YtcbhlhmebbkgnaaGreatRows
import Derived.Test.YtcbhlhmebbkgnaaGreatPk9
import Derived.Test.YtcbhlhmebbkgnaaGreatPk14
set_option linter.unusedSimpArgs false
set_option linter.unusedVariables false
namespace Go.Proofs.YtcbhlhmebbkgnaaGreat
open Go Go.TL
attribute [local irreducible] TR TO Then zaw RetK Sound zab Kf GG zaZ
abbrev zcy (es:List En)(n q:Int):Blk:=.cells [.t (ensT es),.i n,.i q]
abbrev zi8 (n q c:Int):SV:=.ifc 174 (.t (.ag [T.i n,T.i q,T.i c]))
abbrev LS (f:FuncId)(args:List SV)(es:List En)(n q c:Int):Prop:=Sound Tryz.prog f (.ref 0 0::args) [zcy es n q] (Err c (.tup []) (zi8 n q c) [zcy es n q])
theorem retF{rs:List ResultVar}{env:Env}{H:Heap}{es:List En}{n q c c':Int}(h0:c'≠0)(hc:c'=c)(hN:Nat.ble 1 H.length=true)(hb:zaf H.length H=true):
  RetK tab rs 1 (Err0 c (.tup []) (zi8 n q c) [zcy es n q] 1) (.panic (zi8 n q c')) env H:=by
 subst hc;exact RetK.errP h0 hN rfl hb
theorem retN{env:Env}{H:Heap}{es:List En}{n q c:Int}(hc:c=0)(hk:Nat.ble 1 H.length=true)(ht:H.take 1=[zcy es n q]):
  RetK tab [] 1 (Err0 c (.tup []) (zi8 n q c) [zcy es n q] 1) .normal env H:=RetK.errN (vs:=[]) hc rfl (Le.refl _) rfl hk rfl ht rfl
theorem we{G Q1 Q2:Prop}{f:FuncId}{cargs:List SV}{v pv:SV}{c:Int}{Hc H1:Heap}(hs:Sound Tryz.prog f cargs Hc (Err c v pv H1))(k1:Q1)(k2:Q2)(h:Sound Tryz.prog f cargs Hc (Err c v pv H1)->Hold Q1->Hold Q2->G:=by
  intro hs k1 k2
  first
  | (apply TO.zlw 1 hs;(iterate 3 exact rfl);(repeat' (first|exact trivial|exact Le.refl _|refine And.intro ?_ ?_|exact Le.any _|exact Le.nil _|exact Le.own _ _ _|refine Le.tree rfl ?_|exact TLe.refl _|exact TLe.nil _|refine TLe.ags ?_|fail));(iterate 9 exact rfl);exact k1.p;exact k2.p)
  | (apply TO.zlw 2 hs;(iterate 3 exact rfl);(repeat' (first|exact trivial|exact Le.refl _|refine And.intro ?_ ?_|exact Le.any _|exact Le.nil _|exact Le.own _ _ _|refine Le.tree rfl ?_|exact TLe.refl _|exact TLe.nil _|refine TLe.ags ?_|fail));(iterate 9 exact rfl);exact k1.p;exact k2.p)):G:=h hs ⟨k1⟩ ⟨k2⟩
theorem zrq(es:List En)(n q e:Int):Sound Tryz.prog 140 [.ref 0 0,.b true,.i e] [zcy es n q] (fun r H'=>r= .ret (.tup [])/\H'=[zcy es n q]):=by
 refine so Tryz.func140 ?_
 repeat' (first|refine wu ?_|exact wkc|intro hc|refine wk2 ?_ ?_|fail)
 exact RetK.zuT 1 (vs:=[]) rfl (Le.refl _) rfl rfl rfl rfl rfl ⟨rfl,rfl⟩
theorem zq7(es:List En)(n q e:Int)(he:e≠0):LS 140 [.b false,.i e] es n q e:=by
 refine Sound.err rfl (fun _=>rfl) ?_
 refine so Tryz.func140 ?_
 repeat' (first|refine wu ?_|exact wkc|intro hc|refine wk2 ?_ ?_|(apply TO.makeInterface;exact rfl;kernel_rfl;exact rfl)|(apply TO.panic;exact rfl)|fail)
 exact retF he rfl rfl rfl
section
variable {n:Nat}{env:Env}{K:TK}{all:Array Oper}{rest:List Oper}{d:Nat}{ty:TypeId}{pos:String}{aft:Array Edge}{es:List En}{a q e:Int}{H Hr:Heap}{args:Array Operand}{ts:Array TypeId}
theorem TO.zvc(hd:Nat.ble (d+1) n=true)(ha:env.vals args.toList=some [.ref 0 0,.b true,.i e])(h1:H=zcy es a q::Hr)(k:TO false Tryz.prog n all rest ((d,.tup [])::env) H K):
  TO false Tryz.prog n all (⟨some d,.call { callee:=.value (.func 140),args:=args,argTypes:=ts },ty,pos,aft,none⟩::rest) env H K:=by
 subst h1
 exact TO.zkD 1 (zrq es a q e) hd rfl ha ⟨Le.refl _,Le.refl _,Le.refl _,trivial⟩ (by simp) rfl rfl rfl rfl rfl rfl (by simp[zbv]) k
theorem TO.zuL(hd:Nat.ble (d+1) n=true)(ha:env.vals args.toList=some [.ref 0 0,.b false,.i e])(h1:H=zcy es a q::Hr)(he:e≠0)(k:K (.panic (zi8 a q e)) env (.dead::Hr)):
  TO false Tryz.prog n all (⟨some d,.call { callee:=.value (.func 140),args:=args,argTypes:=ts },ty,pos,aft,none⟩::rest) env H K:=by
 subst h1
 exact TO.zlw 1 (zq7 es a q e he) hd rfl ha ⟨Le.refl _,Le.refl _,Le.refl _,trivial⟩ (by simp) rfl rfl rfl rfl rfl rfl rfl (by simp[zbv];rfl) (fun h=>absurd h he) (fun _=>k)
end
theorem wm{G Q:Prop}(k:Q)(h:Hold Q->G:=by
  intro k
  first
  | (apply Go.Proofs.YtcbhlhmebbkgnaaGreat.TO.zvc;(iterate 3 exact rfl);exact k.p)
  | (apply Go.Proofs.YtcbhlhmebbkgnaaGreat.TO.zuL;(iterate 3 exact rfl);decide;exact k.p)
  | (apply Go.Proofs.YtcbhlhmebbkgnaaGreat.TO.zuL;(iterate 3 exact rfl);assumption;exact k.p)):G:=h ⟨k⟩
theorem zbY(es:List En)(n q:Int)(s:Str):LS 180 [.s s] es n q (za3 s):=by
 refine Sound.err rfl (fun _=>rfl) ?_
 have hi:=zh0 s
 unfold za3
 refine so Tryz.func180 ?_
 repeat' (first|refine wu ?_|exact wkc|intro hc|refine wk2 ?_ ?_|refine wb hi ?_ ?_|refine wm ?_|fail)
 ·exact retN (if_pos hc) rfl rfl
 ·apply retF
  ·decide
  ·rw[if_neg (by simp[hc])]
  ·exact rfl
  ·exact rfl
theorem zd9(es:List En)(n q e:Int):LS 184 [.i e] es n q e:=by
 refine Sound.err rfl (fun _=>rfl) ?_
 refine so Tryz.func184 ?_
 repeat' (first|refine wu ?_|exact wkc|intro hc|refine wk2 ?_ ?_|refine wm ?_|fail)
 ·exact retN hc rfl rfl
 ·exact retF hc rfl rfl rfl
theorem zan{α:Type}{f:α->Int}{l:List α}{k:Nat}(hk:k<l.length)(h:zaa f (l.take k)=0)(hn:f l[k]≠0):zaa f l=f l[k]:=by
 conv=>lhs;rw[<-List.take_append_drop k l]
 rw[zaL,if_pos h,List.drop_eq_getElem_cons hk,zaa,if_neg hn]
theorem zai{α:Type}{f:α->Int}{l:List α}{k:Nat}(hk:k<l.length)(h:zaa f (l.take k)=0)(hz:f l[k]=0):zaa f (l.take (k+1))=0:=by
 rw[List.take_succ_eq_append_getElem hk,zaL,if_pos h,zaa,if_pos hz,zaa]
theorem zar{α:Type}{f:α->Int}{l:List α}(h:zaa f (l.take l.length)=0):zaa f l=0:=by rwa [List.take_length]at h
theorem at_s{l:List Str}{k:Nat}(h:k<l.length):(l.map T.s)[k]?=some (T.s l[k]):=by simp[h]
theorem zmR{l:List OnC}{k:Nat}(h:k<l.length):(l.map onT)[k]?=some (.ag [.s l[k].name,T.n l[k].t,T.n l[k].tag]):=zaX onT h
theorem znz(es:List En)(n q:Int)(u:En)(hw:u.tags.length≤1000000000):LS 141 [.t (.ag [.s u.name,.sl 1 (u.tags.map T.s)])] es n q (zdm u):=by
 refine Sound.err rfl (fun _=>rfl) ?_
 have hi:=zbY es n q u.name
 have hml:(u.tags.map T.s).length=u.tags.length:=List.length_map _
 have hz:zdm u=zdm u:=rfl
 conv at hz=>rhs;unfold zdm orE
 generalize zdm u=z at hz⊢
 refine so Tryz.func141 ?_
 repeat' (first|refine wu ?_|exact wkc|intro hc|refine wk2 ?_ ?_|refine we hi ?_ ?_|refine wm ?_|fail)
 all_goals first
  | (apply retF;assumption;(rw[hz];clear hi;grind);exact rfl;exact rfl)
  | (apply retF;decide;(rw[hz];clear hi;grind);exact rfl;exact rfl)
  | skip
 have hz2:z=zaa za3 u.tags:=by rw[hz];clear hi;grind
 clear hz
 generalize u.tags=l at*
 refine TR.zal l.length (fun k=>zaa za3 (l.take k)=0) (fun k=>[(0,.ref 0 0),(23,.t (.sl 1 (l.map T.s))),(24,.i (l.map T.s).length),(25,.i k)]) (fun _=>[zcy es n q]) rfl (fun k hlt ha=>?_) (fun ha=>?_)
 ·have hx:=at_s hlt
  have h1:=zan (f:=za3) hlt ha
  have h2:=zai (f:=za3) hlt ha
  generalize l[k]=x at*
  have hs:=zbY es n q x
  repeat' (first|refine wu ?_|exact wkc|intro hc|refine wk2 ?_ ?_|refine we hs ?_ ?_|fail)
  ·exact zab.zak hlt (h2 hc)
  ·refine zab.panic ?_
   repeat' (first|refine wu ?_|exact wkc|intro hc|refine wk2 ?_ ?_|fail)
   exact retF hc (by rw[hz2,h1 hc]) rfl rfl
 ·repeat' (first|refine wu ?_|exact wkc|intro hc|refine wk2 ?_ ?_|fail)
  exact retN (by rw[hz2,zar ha]) rfl rfl
theorem zdo(es:List En)(n q:Int)(l:List Decl)(port:Bool)(hw:(zac l).w≤1000000000):LS 181 [.t (zac l),.b port] es n q (zaa (zcT es port) l):=by
 refine Sound.err rfl (fun _=>rfl) ?_
 have hml:(l.map zah).length=l.length:=List.length_map _
 have hlb:l.length≤1000000000:=Nat.le_trans (Nat.le_of_lt (zaq zah 3 l)) hw
 refine so Tryz.func181 ?_
 repeat' (first|refine wu ?_|exact wkc|intro hc|refine wk2 ?_ ?_|fail)
 refine TR.zal l.length (fun k=>zaa (zcT es port) (l.take k)=0) (fun k=>[(0,.ref 0 0),(2,.b port),(10,.t (zac l)),(11,.i (l.map zah).length),(12,.i k)]) (fun _=>[zcy es n q]) rfl (fun k hlt ha=>?_) (fun ha=>?_)
 ·have hx:=zbh hlt
  have h1:=zan (f:=zcT es port) hlt ha
  have h2:=zai (f:=zcT es port) hlt ha
  have hcl:=zaq onT 3 l[k].clock
  have hwx:=zaC (f:=zah) (sz:=3) (List.getElem_mem hlt)
  rw[show zah l[k]= .ag (zb4 l[k]) from rfl,w_ag]at hwx
  generalize l[k]=x at*
  simp only[zb4,List.map_cons,List.map_nil,List.sum_cons,List.sum_nil]at hwx
  have hmo:(x.clock.map onT).length=x.clock.length:=List.length_map _
  have hs:=zbY es n q x.name
  have hsz:=zgT es x.ty
  unfold zb4 at hx
  have hz:zcT es port x=zcT es port x:=rfl
  conv at hz=>rhs;unfold zcT orE
  generalize zcT es port x=z at hz h1 h2
  cases port
  all_goals
   repeat' (first|refine wu ?_|exact wkc|intro hc|refine wk2 ?_ ?_|refine we hs ?_ ?_|refine wm ?_|refine wv hsz ?_|fail)
  all_goals first
   | (refine zab.panic ?_
      refine wk ?_
      apply retF
      first|assumption|decide
      ·clear hs hsz;grind
      exact rfl
      exact rfl)
   | skip
  all_goals
   have hz2:z=zaa (onE es) x.clock:=by clear hs hsz;grind
   clear hz hs hsz
   generalize x.clock=cl at*
   refine TR.zal cl.length (fun j=>zaa (onE es) (cl.take j)=0) (fun j=>[(0,.ref 0 0),(2,.b _),(10,.t (zac l)),(11,.i (l.map zah).length),(12,.i k),(47,.t (.sl 3 (cl.map onT))),(48,.i (cl.map onT).length),(49,.i j)]) (fun _=>[zcy es n q]) rfl (fun j hlt2 ha2=>?_) (fun ha2=>?_)
   ·have hx2:=zmR hlt2
    have g1:=zan (f:=onE es) hlt2 ha2
    have g2:=zai (f:=onE es) hlt2 ha2
    generalize cl[j]=o at*
    have hs:=zbY es n q o.name
    have hh:=zlK es o.t o.tag
    have hz:onE es o=onE es o:=rfl
    conv at hz=>rhs;unfold onE orE
    generalize onE es o=z3 at hz g1 g2
    repeat' (first|refine wu ?_|exact wkc|intro hc|refine wk2 ?_ ?_|refine we hs ?_ ?_|refine wm ?_|refine wb hh ?_ ?_|fail)
    all_goals first
     | exact zab.zak hlt2 (g2 (by clear hs hh;grind))
     | (refine zab.panic ?_
        refine wk ?_
        refine zab.panic ?_
        refine wk ?_
        apply retF
        first|assumption|decide
        ·clear hs hh;grind
        exact rfl
        exact rfl)
   ·have hz3:=zar ha2
    refine wk ?_
    repeat' (first|refine wu ?_|exact wkc|intro hc|refine wk2 ?_ ?_|fail)
    exact zab.zak hlt (h2 (by rw[hz2,hz3]))
 ·repeat' (first|refine wu ?_|exact wkc|intro hc|refine wk2 ?_ ?_|fail)
  exact retN (zar ha) rfl rfl
def allF(g:Ex->Bool)(H1:Heap)(_:List Ex)(x:Ex):Out:=if g x=true then .go else .jump .ret H1
theorem zkN(g:Ex->Bool)(H1:Heap):∀(l pre:List Ex),zbm (allF g H1) pre l=if l.all g=true then .go else .jump .ret H1
 | [],pre=>by simp[zbm]
 | x::l,pre=>by
   simp only[zbm,allF,List.all_cons,Bool.and_eq_true]
   by_cases h:g x=true
   ·simp only[h,if_true,true_and];exact zkN g H1 l _
   ·simp[h]
theorem ziW(e:Ex)(h:wEx e≤1000000000):Pure Tryz.prog 225 [.t (.ag (exC e))] (.b (sless e)):=by
 have hs:=zc4 e
 rw[zaA]at hs
 have hc0:exC e=[T.n e.kind,T.n e.op,T.n e.t,T.n e.v,.s e.name,.sl 6 (e.args.map exT)]:=rfl
 rw[hc0]at hs⊢
 unfold sless
 refine so Tryz.func225 ?_
 repeat' (first|refine wkb ?_|refine wk ?_|exact wkc|intro hc|refine wk2 ?_ ?_|refine wv hs ?_|fail)
 refine TR.zd4 e (fun _=>[.cells [.b false]]) (allF (fun x=>zgX x.kind.1) [.cells [.b false]]) rfl h rfl rfl rfl (fun _=>⟨rfl,rfl⟩) (fun pre x=>?_) (fun fn pre x post hw=>?_) (fun fn=>?_)
 ·unfold allF
  split <;> rename_i hq <;> split at hq <;> cases hq
  ·trivial
  ·exact⟨rfl,rfl⟩
 ·have hcx:exC x=[T.n x.kind,T.n x.op,T.n x.t,T.n x.v,.s x.name,.sl 6 (x.args.map exT)]:=rfl
  rw[hcx]
  repeat' (first|refine wu ?_|exact wkc|intro hc|refine wk2 ?_ ?_|fail)
  refine⟨rfl,?_⟩
  repeat' (first|refine wu ?_|exact wkc|intro hc|refine wk2 ?_ ?_|fail)
  all_goals first
   | (refine⟨_,?_,rfl,rfl⟩
      rw[allF,if_neg (by clear hs hc0 hcx;simp[zgX];omega)]
      rfl)
   | (refine⟨?_,rfl,rfl⟩
      rw[allF,if_pos (by clear hs hc0 hcx;simp[zgX];omega)])
 ·rw[zkN]
  by_cases h2:((flat e).all fun x=>zgX x.kind.1)=true
  ·rw[if_pos h2,h2]
   repeat' (first|refine wu ?_|exact wkc|intro hc|refine wk2 ?_ ?_|fail)
   exact wkr
  ·rw[if_neg h2,Bool.not_eq_true _ |>.mp h2]
   simp only[]
   repeat' (first|refine wu ?_|exact wkc|intro hc|refine wk2 ?_ ?_|fail)
   exact wkr
def cnt(l:List Ex)(k:Int):Nat:=(l.filter fun x=>decide (x.kind.1=k)).length
theorem zc7(e:Ex)(h:wEx e≤1000000000)(kd:Int):Pure Tryz.prog 236 [.t (.ag (exC e)),.i kd] (.i (cnt (flat e) kd)):=by
 have hls:=zju e h
 have hll:=zdp e
 rw[zaA]at*
 have hc0:exC e=[T.n e.kind,T.n e.op,T.n e.t,T.n e.v,.s e.name,.sl 6 (e.args.map exT)]:=rfl
 rw[hc0]at hls⊢
 refine so Tryz.func236 ?_
 repeat' (first|refine wu ?_|exact wkc|intro hc|refine wk2 ?_ ?_|refine wv hls ?_|fail)
 generalize flat e=l at hll⊢
 have hml:(l.map exT).length=l.length:=List.length_map _
 refine TR.zal l.length (fun _=>True) (fun k=>[(1,.i kd),(5,.i (cnt (l.take k) kd)),(6,.t (.sl 6 (l.map exT))),(7,.i k)]) (fun _=>[]) trivial (fun k hlt _=>?_) (fun _=>?_)
 ·have hx:=zbd hlt
  have hn:cnt (l.take (k+1)) kd=cnt (l.take k) kd+if l[k].kind.1=kd then 1 else 0:=by
   unfold cnt;rw[List.take_succ_eq_append_getElem hlt,List.filter_append]
   by_cases hk:l[k].kind.1=kd <;> simp[hk]
  have hle:cnt (l.take k) kd≤k:=by
   unfold cnt
   have h1:=List.length_filter_le (fun x:Ex=>decide (x.kind.1=kd)) (l.take k)
   have h2:(l.take k).length≤k:=by simp;omega
   omega
  generalize l[k]=x at*
  have hcx:exC x=[T.n x.kind,T.n x.op,T.n x.t,T.n x.v,.s x.name,.sl 6 (x.args.map exT)]:=rfl
  rw[hcx]at hx
  repeat' (first|refine wu ?_|exact wkc|intro hc|refine wk2 ?_ ?_|fail)
  ·rw[if_pos hc]at hn
   refine zab.zak hlt trivial ?_
   rw[hn];exact⟨rfl,rfl,rfl,rfl,trivial⟩
  ·rw[if_neg hc]at hn
   refine zab.zak hlt trivial ?_
   rw[hn];exact⟨rfl,rfl,rfl,rfl,trivial⟩
 ·repeat' (first|refine wu ?_|exact wkc|intro hc|refine wk2 ?_ ?_|fail)
  rw[List.take_length]
  exact wkr
theorem zrA(x:Ex)(l:List Ex)(k:Int):cnt (x::l) k=cnt l k+if x.kind.1=k then 1 else 0:=by
 unfold cnt;by_cases h:x.kind.1=k <;> simp[h]
theorem zrD(l:List Ex):(cnt l 5+cnt l 6+cnt l 7+cnt l 10+cnt l 11=0) ↔ (l.all fun x=>zgX x.kind.1)=true:=by
 induction l with
 | nil=>simp[cnt]
 | cons x l ih=>
   rw[List.all_cons,Bool.and_eq_true,<-ih]
   simp only[zrA,zgX,decide_eq_true_eq]
   repeat' split
   all_goals omega
theorem zhr(e:Ex)(h:wEx e≤1000000000):Pure Tryz.prog 231 [.t (.ag (exC e))] (.b (sless e)):=by
 have h5:=zc7 e h 5
 have h6:=zc7 e h 6
 have h7:=zc7 e h 7
 have h10:=zc7 e h 10
 have h11:=zc7 e h 11
 have hz:=zrD (flat e)
 have hle:∀k,cnt (flat e) k≤1000000000:=fun k=>Nat.le_trans (List.length_filter_le _ _) (by rw[zdp];exact h)
 have l5:=hle 5
 have l6:=hle 6
 have l7:=hle 7
 have l10:=hle 10
 have l11:=hle 11
 unfold sless
 generalize ((flat e).all fun x=>zgX x.kind.1)=b at*
 unfold exC at*
 refine so Tryz.func231 ?_
 repeat' (first|refine wu ?_|exact wkc|intro hc|refine wk2 ?_ ?_|refine wv h5 ?_|refine wv h6 ?_|refine wv h7 ?_|refine wv h10 ?_|refine wv h11 ?_|fail)
 all_goals
  refine RetK.pure rfl (Le.of_eq ?_) rfl
  refine congrArg (fun b=>SV.t (T.v (Value.bool b))) ?_
  clear h5 h6 h7 h10 h11
 ·exact(hz.1 (by omega)).symm
 ·cases b with
  | false=>rfl
  | true=>have:=hz.2 rfl;omega
theorem zkl{q:Equ}:wEx q.right≤(equT q).w:=by
 have h:=zep q.right
 rw[zaA,w_ag]at h
 rw[show equT q= .ag (.sl 1 (q.left.map T.s)::exC q.right) from rfl,w_ag,List.map_cons,List.sum_cons]
 have:=zuG (.sl 1 (q.left.map T.s))
 omega
theorem zbE{q:Equ}:q.left.length≤(equT q).w:=by
 have h:=zaq T.s 1 q.left
 rw[show equT q= .ag (.sl 1 (q.left.map T.s)::exC q.right) from rfl,w_ag,List.map_cons,List.sum_cons]
 omega
def equC(q:Equ):List T:=.sl 1 (q.left.map T.s)::[T.n q.right.kind,T.n q.right.op,T.n q.right.t,T.n q.right.v,.s q.right.name,.sl 6 (q.right.args.map exT)]
theorem zcP{l:List Equ}{k:Nat}(h:k<l.length):(l.map equT)[k]?=some (.ag (equC l[k])):=zaX equT h
theorem zjA(es:List En)(n q:Int)(u:Equ)(hw:(equT u).w≤1000000000):LS 182 [.t (.ag (equC u))] es n q (equE es u):=by
 refine Sound.err rfl (fun _=>rfl) ?_
 have hx:=zda es u.right (Nat.le_trans zkl hw)
 have hlb:u.left.length≤1000000000:=Nat.le_trans zbE hw
 have hml:(u.left.map T.s).length=u.left.length:=List.length_map _
 have hr:=zd9 es n q (zaP es u.right)
 have hz:equE es u=equE es u:=rfl
 conv at hz=>rhs;unfold equE orE
 rw[zaA]at hx
 unfold exC at hx
 unfold equC
 generalize equE es u=z at hz⊢
 generalize zaP es u.right=xe at*
 refine so Tryz.func182 ?_
 repeat' (first|refine wu ?_|exact wkc|intro hc|refine wk2 ?_ ?_|refine wm ?_|fail)
 all_goals first
  | ((repeat' (first|refine zab.panic ?_|refine wk ?_|fail));apply retF;(first|assumption|decide);(clear hr hx;grind);exact rfl;exact rfl)
  | skip
 generalize u.left=l at*
 refine TR.zal l.length (fun k=>zaa za3 (l.take k)=0) (fun k=>[(0,.ref 0 0),(3,.cp [.sl 1 (l.map T.s),T.n u.right.kind,T.n u.right.op,T.n u.right.t,T.n u.right.v,.s u.right.name,.sl 6 (u.right.args.map exT)] 0),(19,.t (.sl 1 (l.map T.s))),(20,.i (l.map T.s).length),(21,.i k)]) (fun _=>[zcy es n q]) rfl (fun k hlt ha=>?_) (fun ha=>?_)
 ·have hx:=at_s hlt
  have h1:=zan (f:=za3) hlt ha
  have h2:=zai (f:=za3) hlt ha
  generalize l[k]=x at*
  have hs:=zbY es n q x
  repeat' (first|refine wu ?_|exact wkc|intro hc|refine wk2 ?_ ?_|refine we hs ?_ ?_|fail)
  all_goals first
   | exact zab.zak hlt (h2 hc)
   | ((repeat' (first|refine zab.panic ?_|refine wk ?_|fail));apply retF;(first|assumption|decide);(clear hr hx hs;grind);exact rfl;exact rfl)
 ·have h1:=zar ha
  repeat' (first|refine wu ?_|exact wkc|intro hc|refine wk2 ?_ ?_|refine wv hx ?_|refine we hr ?_ ?_|refine wm ?_|fail)
  all_goals first
   | ((repeat' (first|refine zab.panic ?_|refine wk ?_|fail));apply retF;(first|assumption|decide);(clear hr hx;grind);exact rfl;exact rfl)
   | exact retN (by clear hr hx;grind) rfl rfl
def zgC(t:Tran):List T:=[T.n t.cond.kind,T.n t.cond.op,T.n t.cond.t,T.n t.cond.v,.s t.cond.name,.sl 6 (t.cond.args.map exT),T.n t.to,.b t.resume]
theorem zky{l:List Tran}{k:Nat}(h:k<l.length):(l.map zat)[k]?=some (.ag (zgC l[k])):=zaX zat h
theorem zhG{t:Tran}:wEx t.cond≤(zat t).w:=by
 have h:=zep t.cond
 rw[zaA,w_ag]at h
 rw[show zat t= .ag (zgC t) from rfl,w_ag]
 simp only[exC,zgC,List.map_cons,List.map_nil,List.sum_cons,List.sum_nil]at*
 omega
theorem zhn(es:List En)(n q:Int)(l:List Tran)(states:Int)(strong:Bool)(hw:(T.sl 8 (l.map zat)).w≤1000000000):LS 210 [.t (.sl 8 (l.map zat)),.i states,.b strong] es n q (zaa (zdY es states strong) l):=by
 refine Sound.err rfl (fun _=>rfl) ?_
 have hml:(l.map zat).length=l.length:=List.length_map _
 have hlb:l.length≤1000000000:=Nat.le_trans (Nat.le_of_lt (zaq zat 8 l)) hw
 refine so Tryz.func210 ?_
 repeat' (first|refine wu ?_|exact wkc|intro hc|refine wk2 ?_ ?_|fail)
 refine TR.zal l.length (fun k=>zaa (zdY es states strong) (l.take k)=0) (fun k=>[(0,.ref 0 0),(2,.i states),(3,.b strong),(10,.t (.sl 8 (l.map zat))),(11,.i (l.map zat).length),(12,.i k)]) (fun _=>[zcy es n q]) rfl (fun k hlt ha=>?_) (fun ha=>?_)
 ·have hx:=zky hlt
  have h1:=zan (f:=zdY es states strong) hlt ha
  have h2:=zai (f:=zdY es states strong) hlt ha
  have hwx:=zaC (f:=zat) (sz:=8) (List.getElem_mem hlt)
  generalize l[k]=x at*
  have hwe:wEx x.cond≤1000000000:=by have:=zhG (t:=x);omega
  have hex:=zda es x.cond hwe
  have hst:=ziW x.cond hwe
  rw[zaA]at hex
  unfold exC at hex hst
  unfold zgC at hx
  have hr:=zd9 es n q (zaP es x.cond)
  have hz:zdY es states strong x=zdY es states strong x:=rfl
  conv at hz=>rhs;unfold zdY orE
  generalize zdY es states strong x=z at*
  generalize zaP es x.cond=xe at*
  generalize sless x.cond=sl at*
  cases strong
  all_goals
   repeat' (first|refine wu ?_|exact wkc|intro hc|refine wk2 ?_ ?_|refine wm ?_|refine wv hex ?_|refine we hr ?_ ?_|refine wb hst ?_ ?_|fail)
  all_goals first
   | exact zab.zak hlt (h2 (by clear hex hst hr;grind))
   | ((repeat' (first|refine zab.panic ?_|refine wk ?_|fail));apply retF;(first|assumption|decide);(clear hex hst hr hx;grind);exact rfl;exact rfl)
 ·repeat' (first|refine wu ?_|exact wkc|intro hc|refine wk2 ?_ ?_|fail)
  exact retN (zar ha) rfl rfl
def zcg(a:Auto):List T:=[.sl 6 (a.states.map staT)]
theorem zeO(a:Auto):zaj a= .ag (zcg a):=zsp a
def staC(s:Sta):List T:=[.s s.name,zac s.locals,.sl 7 (s.eqs.map equT),.sl 1 (s.autos.map zaj),.sl 8 (s.unl.map zat),.sl 8 (s.unt.map zat)]
theorem zf6(s:Sta):staT s= .ag (staC s):=zt2 s
theorem zfK{l:List Sta}{k:Nat}(h:k<l.length):(l.map staT)[k]?=some (.ag (staC l[k])):=by rw[<-zf6];exact zaX staT h
theorem zdL{l:List Auto}{k:Nat}(h:k<l.length):(l.map zaj)[k]?=some (.ag (zcg l[k])):=by rw[<-zeO];exact zaX zaj h
theorem zfd(s:Sta):(zac s.locals).w+(T.sl 7 (s.eqs.map equT)).w+(T.sl 1 (s.autos.map zaj)).w+(T.sl 8 (s.unl.map zat)).w+(T.sl 8 (s.unt.map zat)).w≤(staT s).w:=by
 rw[zf6,w_ag];simp only[staC,List.map_cons,List.map_nil,List.sum_cons,List.sum_nil];omega
theorem zdn(a:Auto):(T.sl 6 (a.states.map staT)).w≤(zaj a).w:=by
 rw[zeO,w_ag];simp only[zcg,List.map_cons,List.map_nil,List.sum_cons,List.sum_nil];omega
theorem zg0(es:List En)(n q:Int):∀(k:Nat) (d:Int),k≤3->d+k=3->∀(a:Auto),(zaj a).w≤1000000000->LS 183 [.t (.ag (zcg a)),.i d] es n q (zb5 es k a)
 | 0,d,_,hd,a,_=>by
   refine Sound.err rfl (fun _=>rfl) ?_
   unfold zb5 zcg
   refine so Tryz.func183 ?_
   repeat' (first|refine wu ?_|exact wkc|intro hc|refine wk2 ?_ ?_|refine wm ?_|fail)
   ·apply retF
    ·decide
    ·rfl
    ·exact rfl
    ·exact rfl
 | k+1,d,hk3,hd,a,hw=>by
   have ih:∀x,(zaj x).w≤1000000000->LS 183 [.t (.ag (zcg x)),.i (d+1)] es n q (zb5 es k x):=fun x hx=>zg0 es n q k (d+1) (by omega) (by omega) x hx
   refine Sound.err rfl (fun _=>rfl) ?_
   have hwa:=zdn a
   have hlb:a.states.length≤1000000000:=by have:=zaq staT 6 a.states;omega
   have hml:(a.states.map staT).length=a.states.length:=List.length_map _
   have hz:zb5 es (k+1) a=zb5 es (k+1) a:=rfl
   conv at hz=>rhs;unfold zb5 orE
   generalize zb5 es (k+1) a=z at hz⊢
   generalize zb5 es k=F at*
   unfold zcg
   generalize a.states=l at*
   refine so Tryz.func183 ?_
   repeat' (first|refine wu ?_|exact wkc|intro hc|refine wk2 ?_ ?_|refine wm ?_|fail)
   all_goals first
    | ((repeat' (first|refine zab.panic ?_|refine wk ?_|fail));apply retF;(first|assumption|decide);(clear ih;grind);exact rfl;exact rfl)
    | (exfalso;omega)
    | skip
   have hz2:z=zaa (stE es F (l.length:Int)) l:=by clear ih;grind
   clear hz
   refine TR.zal l.length (fun k=>zaa (stE es F (l.length:Int)) (l.take k)=0) (fun k=>[(0,.ref 0 0),(2,.i d),(4,.cp [.sl 6 (l.map staT)] 0),(29,.t (.sl 6 (l.map staT))),(30,.i (l.map staT).length),(31,.i k)]) (fun _=>[zcy es n q]) rfl (fun j hlt ha=>?_) (fun ha=>?_)
   ·have hx:=zfK hlt
    have h1:=zan (f:=stE es F (l.length:Int)) hlt ha
    have h2:=zai (f:=stE es F (l.length:Int)) hlt ha
    have hwx:=zaC (f:=staT) (sz:=6) (List.getElem_mem hlt)
    generalize l[j]=x at*
    have hws:=zfd x
    have hl1:=zaq equT 7 x.eqs
    have hl2:=zaq zaj 1 x.autos
    have m1:(x.locals.map zah).length=x.locals.length:=List.length_map _
    have m2:(x.eqs.map equT).length=x.eqs.length:=List.length_map _
    have m3:(x.autos.map zaj).length=x.autos.length:=List.length_map _
    have m4:(x.unl.map zat).length=x.unl.length:=List.length_map _
    have m5:(x.unt.map zat).length=x.unt.length:=List.length_map _
    have hi:=zbY es n q x.name
    have hd1:=zdo es n q x.locals false (by omega)
    have ht1:=zhn es n q x.unl (l.length:Int) true (by omega)
    have ht2:=zhn es n q x.unt (l.length:Int) false (by omega)
    rw[<-hml]at ht1 ht2
    have hz:stE es F (l.length:Int) x=stE es F (l.length:Int) x:=rfl
    conv at hz=>rhs;unfold stE orE
    have heq:∀u,u∈x.eqs->LS 182 [.t (.ag (equC u))] es n q (equE es u):=fun u hu=>zjA es n q u (by have:=zaC (f:=equT) (sz:=7) hu;omega)
    have hau:∀u,u∈x.autos->LS 183 [.t (.ag (zcg u)),.i (d+1)] es n q (F u):=fun u hu=>ih u (by have:=zaC (f:=zaj) (sz:=1) hu;omega)
    clear ih
    generalize stE es F (l.length:Int) x=zs at hz h1 h2
    rw[<-hml]at hz
    unfold staC at hx
    repeat' (first|refine wu ?_|exact wkc|intro hc|refine wk2 ?_ ?_|refine wm ?_|refine we hi ?_ ?_|refine we hd1 ?_ ?_|fail)
    all_goals first
     | ((repeat' (first|refine zab.panic ?_|refine wk ?_|fail));apply retF;(first|assumption|decide);(clear hi hd1 ht1 ht2 heq hau hx;grind);exact rfl;exact rfl)
     | skip
    refine TR.zal x.eqs.length (fun i=>zaa (equE es) (x.eqs.take i)=0) (fun i=>[(0,.ref 0 0),(2,.i d),(4,.cp [.sl 6 (l.map staT)] 0),(29,.t (.sl 6 (l.map staT))),(30,.i (l.map staT).length),(31,.i j),(7,.cp [.s x.name,zac x.locals,.sl 7 (x.eqs.map equT),.sl 1 (x.autos.map zaj),.sl 8 (x.unl.map zat),.sl 8 (x.unt.map zat)] 0),(72,.t (.sl 7 (x.eqs.map equT))),(73,.i (x.eqs.map equT).length),(74,.i i)]) (fun _=>[zcy es n q]) rfl (fun i hlt2 ha2=>?_) (fun ha2=>?_)
    ·have hx2:=zcP hlt2
     have g1:=zan (f:=equE es) hlt2 ha2
     have g2:=zai (f:=equE es) hlt2 ha2
     have hs:=heq _ (List.getElem_mem hlt2)
     generalize x.eqs[i]=u at*
     unfold equC at hx2 hs
     repeat' (first|refine wu ?_|exact wkc|intro hc|refine wk2 ?_ ?_|refine we hs ?_ ?_|fail)
     all_goals first
      | exact zab.zak hlt2 (g2 hc)
      | ((repeat' (first|refine zab.panic ?_|refine wk ?_|fail));apply retF;(first|assumption|decide);(clear hi hd1 ht1 ht2 heq hau hx hx2 hs;grind);exact rfl;exact rfl)
    have he2:=zar ha2
    refine wk ?_
    repeat' (first|refine wu ?_|exact wkc|intro hc|refine wk2 ?_ ?_|fail)
    refine TR.zal x.autos.length (fun i=>zaa F (x.autos.take i)=0) (fun i=>[(0,.ref 0 0),(2,.i d),(4,.cp [.sl 6 (l.map staT)] 0),(29,.t (.sl 6 (l.map staT))),(30,.i (l.map staT).length),(31,.i j),(7,.cp [.s x.name,zac x.locals,.sl 7 (x.eqs.map equT),.sl 1 (x.autos.map zaj),.sl 8 (x.unl.map zat),.sl 8 (x.unt.map zat)] 0),(83,.t (.sl 1 (x.autos.map zaj))),(84,.i (x.autos.map zaj).length),(85,.i i)]) (fun _=>[zcy es n q]) rfl (fun i hlt2 ha2=>?_) (fun ha2=>?_)
    ·have hx2:=zdL hlt2
     have g1:=zan (f:=F) hlt2 ha2
     have g2:=zai (f:=F) hlt2 ha2
     have hs:=hau _ (List.getElem_mem hlt2)
     generalize x.autos[i]=u at*
     unfold zcg at hx2 hs
     repeat' (first|refine wu ?_|exact wkc|intro hc|refine wk2 ?_ ?_|refine we hs ?_ ?_|fail)
     all_goals first
      | exact zab.zak hlt2 (g2 hc)
      | ((repeat' (first|refine zab.panic ?_|refine wk ?_|fail));apply retF;(first|assumption|decide);(clear hi hd1 ht1 ht2 heq hau hx hx2 hs;grind);exact rfl;exact rfl)
    have he3:=zar ha2
    refine wk ?_
    repeat' (first|refine wu ?_|exact wkc|intro hc|refine wk2 ?_ ?_|refine we ht1 ?_ ?_|refine we ht2 ?_ ?_|fail)
    all_goals first
     | exact zab.zak hlt (h2 (by clear hi hd1 ht1 ht2 heq hau hx;grind))
     | ((repeat' (first|refine zab.panic ?_|refine wk ?_|fail));apply retF;(first|assumption|decide);(clear hi hd1 ht1 ht2 heq hau hx;grind);exact rfl;exact rfl)
   ·repeat' (first|refine wu ?_|exact wkc|intro hc|refine wk2 ?_ ?_|fail)
    exact retN (by rw[hz2,zar ha]) rfl rfl
theorem zmX(es:List En)(n q:Int)(a:Auto)(hw:(zaj a).w≤1000000000):LS 183 [.t (.ag (zcg a)),.i 0] es n q (zb5 es 3 a):=zg0 es n q 3 0 (Nat.le_refl _) rfl a hw
end Go.Proofs.YtcbhlhmebbkgnaaGreat
namespace Go.Proofs.YtcbhlhmebbkgnaaGreat
open Go Go.TL
variable {H:Type}
theorem zti:Tryz.prog.cellsOf 25=2:=by kernel_rfl
theorem zsB:aggB Tryz.prog 25=true:=by unfold aggB;rw[Tryz.underlying25]
theorem zu4{n:Nat}(rec:∀j,j<n->∀(d:DataW H) ts,TyD Tryz.prog j 102 d ts->∃o:Auto,mkT true ts=zaj o){d:DataW H}{ts:List T}(h:TyD Tryz.prog n 111 d ts):∃o:Sta,mkT true ts=staT o:=by
 cases n with
 | zero=>exact h.elim
 | succ m=>
   simp only[TyD,Tryz.underlying111]at h
   obtain⟨xs,rfl,hl,hx,hf⟩:=h
   rw[zl1]at hl
   match xs,hx,ts,hl with
   | [x0,x1,x2,x3,x4,x5],_,[a,b,c,e,g,i],_=>
     have f0:TyD Tryz.prog m 9 x0 (([a,b,c,e,g,i].drop 0).take (Tryz.prog.cellsOf 9)):=hf 0 _ x0 rfl rfl
     have f1:TyD Tryz.prog m 47 x1 (([a,b,c,e,g,i].drop 1).take (Tryz.prog.cellsOf 47)):=hf 1 _ x1 rfl rfl
     have f2:TyD Tryz.prog m 48 x2 (([a,b,c,e,g,i].drop 2).take (Tryz.prog.cellsOf 48)):=hf 2 _ x2 rfl rfl
     have f3:TyD Tryz.prog m 49 x3 (([a,b,c,e,g,i].drop 3).take (Tryz.prog.cellsOf 49)):=hf 3 _ x3 rfl rfl
     have f4:TyD Tryz.prog m 109 x4 (([a,b,c,e,g,i].drop 4).take (Tryz.prog.cellsOf 109)):=hf 4 _ x4 rfl rfl
     have f5:TyD Tryz.prog m 109 x5 (([a,b,c,e,g,i].drop 5).take (Tryz.prog.cellsOf 109)):=hf 5 _ x5 rfl rfl
     simp only[zog,zod,ztf,zj1,zrS,List.drop_zero,List.drop_succ_cons,List.take_succ_cons,List.take_zero]at f0 f1 f2 f3 f4 f5
     obtain⟨v0,e0⟩:=ty_s f0
     obtain⟨v1,e1⟩:=zel zah Tryz.underlying47 zge f1 (fun k hk d ts ht=>by
      obtain⟨u,hu⟩:=zkS ht
      exact⟨u,by rw[zhA];first|exact hu|(rw[hu];rfl)⟩)
     obtain⟨v2,e2⟩:=zel equT Tryz.underlying48 zq3 f2 (fun k hk d ts ht=>by
      obtain⟨u,hu⟩:=zsN ht
      exact⟨u,by rw[zpQ];first|exact hu|(rw[hu];rfl)⟩)
     obtain⟨v3,e3⟩:=zel zaj Tryz.underlying49 zkY f3 (fun k hk d ts ht=>by
      obtain⟨u,hu⟩:=rec k (by omega) d ts ht
      exact⟨u,by rw[zou];first|exact hu|(rw[hu];rfl)⟩)
     obtain⟨v4,e4⟩:=zel zat Tryz.underlying109 zkx f4 (fun k hk d ts ht=>by
      obtain⟨u,hu⟩:=zpR ht
      exact⟨u,by rw[zoC];first|exact hu|(rw[hu];rfl)⟩)
     obtain⟨v5,e5⟩:=zel zat Tryz.underlying109 zkx f5 (fun k hk d ts ht=>by
      obtain⟨u,hu⟩:=zpR ht
      exact⟨u,by rw[zoC];first|exact hu|(rw[hu];rfl)⟩)
     simp only[List.cons.injEq,and_true]at e0 e1 e2 e3 e4 e5
     subst e0 e1 e2 e3 e4 e5
     refine⟨.mk v0 v1 v2 v3 v4 v5,?_⟩
     rw[zf6];unfold staC
     rfl
theorem ztG:∀(n m:Nat),m≤n->∀(d:DataW H) (ts:List T),TyD Tryz.prog m 102 d ts->∃o:Auto,mkT true ts=zaj o:=by
 intro n
 induction n with
 | zero=>intro m hm d ts h;have:m=0:=by omega
         subst this;exact h.elim
 | succ n ih=>
   intro m hm d ts h
   cases m with
   | zero=>exact h.elim
   | succ m=>
     simp only[TyD,Tryz.underlying102]at h
     obtain⟨xs,rfl,hl,hx,hf⟩:=h
     rw[zkY]at hl
     match xs,hx,ts,hl with
     | [x0],_,[a],_=>
       have f0:TyD Tryz.prog m 100 x0 (([a].drop 0).take (Tryz.prog.cellsOf 100)):=hf 0 _ x0 rfl rfl
       simp only[zqs,List.drop_zero,List.take_succ_cons,List.take_zero]at f0
       obtain⟨v0,e0⟩:=zel staT Tryz.underlying100 zl1 f0 (fun k hk d ts ht=>by
        obtain⟨u,hu⟩:=zu4 (fun j hj d ts h=>ih j (by omega) d ts h) ht
        exact⟨u,by rw[zth];exact hu⟩)
       simp only[List.cons.injEq,and_true]at e0
       subst e0
       refine⟨.mk v0,?_⟩
       rw[zeO]
       rfl
theorem zuq{n:Nat}{d:DataW H}{ts:List T}(h:TyD Tryz.prog n 51 d ts):∃o:Nod,mkT true ts=nodT o:=by
 cases n with
 | zero=>exact h.elim
 | succ m=>
   simp only[TyD,Tryz.underlying51]at h
   obtain⟨xs,rfl,hl,hx,hf⟩:=h
   rw[zof]at hl
   match xs,hx,ts,hl with
   | [x0,x1,x2,x3,x4,x5,x6,x7],_,[a,b,c,e,g,i,j,k],_=>
     have f0:TyD Tryz.prog m 9 x0 (([a,b,c,e,g,i,j,k].drop 0).take (Tryz.prog.cellsOf 9)):=hf 0 _ x0 rfl rfl
     have f1:TyD Tryz.prog m 47 x1 (([a,b,c,e,g,i,j,k].drop 1).take (Tryz.prog.cellsOf 47)):=hf 1 _ x1 rfl rfl
     have f2:TyD Tryz.prog m 47 x2 (([a,b,c,e,g,i,j,k].drop 2).take (Tryz.prog.cellsOf 47)):=hf 2 _ x2 rfl rfl
     have f3:TyD Tryz.prog m 47 x3 (([a,b,c,e,g,i,j,k].drop 3).take (Tryz.prog.cellsOf 47)):=hf 3 _ x3 rfl rfl
     have f4:TyD Tryz.prog m 48 x4 (([a,b,c,e,g,i,j,k].drop 4).take (Tryz.prog.cellsOf 48)):=hf 4 _ x4 rfl rfl
     have f5:TyD Tryz.prog m 49 x5 (([a,b,c,e,g,i,j,k].drop 5).take (Tryz.prog.cellsOf 49)):=hf 5 _ x5 rfl rfl
     have f6:TyD Tryz.prog m 33 x6 (([a,b,c,e,g,i,j,k].drop 6).take (Tryz.prog.cellsOf 33)):=hf 6 _ x6 rfl rfl
     have f7:TyD Tryz.prog m 33 x7 (([a,b,c,e,g,i,j,k].drop 7).take (Tryz.prog.cellsOf 33)):=hf 7 _ x7 rfl rfl
     simp only[zog,zod,ztf,zsC,zj1,List.drop_zero,List.drop_succ_cons,List.take_succ_cons,List.take_zero]at f0 f1 f2 f3 f4 f5 f6 f7
     obtain⟨v0,e0⟩:=ty_s f0
     obtain⟨v1,e1⟩:=zel zah Tryz.underlying47 zge f1 (fun k hk d ts ht=>by
      obtain⟨u,hu⟩:=zkS ht
      exact⟨u,by rw[zhA];first|exact hu|(rw[hu];rfl)⟩)
     obtain⟨v2,e2⟩:=zel zah Tryz.underlying47 zge f2 (fun k hk d ts ht=>by
      obtain⟨u,hu⟩:=zkS ht
      exact⟨u,by rw[zhA];first|exact hu|(rw[hu];rfl)⟩)
     obtain⟨v3,e3⟩:=zel zah Tryz.underlying47 zge f3 (fun k hk d ts ht=>by
      obtain⟨u,hu⟩:=zkS ht
      exact⟨u,by rw[zhA];first|exact hu|(rw[hu];rfl)⟩)
     obtain⟨v4,e4⟩:=zel equT Tryz.underlying48 zq3 f4 (fun k hk d ts ht=>by
      obtain⟨u,hu⟩:=zsN ht
      exact⟨u,by rw[zpQ];first|exact hu|(rw[hu];rfl)⟩)
     obtain⟨v5,e5⟩:=zel zaj Tryz.underlying49 zkY f5 (fun k hk d ts ht=>by
      obtain⟨u,hu⟩:=ztG k k (Nat.le_refl _) d ts ht
      exact⟨u,by rw[zou];first|exact hu|(rw[hu];rfl)⟩)
     obtain⟨v6,e6⟩:=zel exT Tryz.underlying33 zsW f6 (fun k hk d ts ht=>by
      obtain⟨u,hu⟩:=zpW k k (Nat.le_refl _) _ _ ht
      exact⟨u,by rw[zox,hu,zaA];rfl⟩)
     obtain⟨v7,e7⟩:=zel exT Tryz.underlying33 zsW f7 (fun k hk d ts ht=>by
      obtain⟨u,hu⟩:=zpW k k (Nat.le_refl _) _ _ ht
      exact⟨u,by rw[zox,hu,zaA];rfl⟩)
     simp only[List.cons.injEq,and_true]at e0 e1 e2 e3 e4 e5 e6 e7
     subst e0 e1 e2 e3 e4 e5 e6 e7
     refine⟨⟨v0,v1,v2,v3,v4,v5,v6,v7⟩,?_⟩
     skip
     rfl
theorem zt8{n:Nat}{d:DataW H}{ts:List T}(h:TyD Tryz.prog n 25 d ts):∃o:Prog,mkT true ts= .ag (zav o):=by
 cases n with
 | zero=>exact h.elim
 | succ m=>
   simp only[TyD,Tryz.underlying25]at h
   obtain⟨xs,rfl,hl,hx,hf⟩:=h
   rw[zti]at hl
   match xs,hx,ts,hl with
   | [x0,x1],_,[a,b],_=>
     have f0:TyD Tryz.prog m 22 x0 (([a,b].drop 0).take (Tryz.prog.cellsOf 22)):=hf 0 _ x0 rfl rfl
     have f1:TyD Tryz.prog m 23 x1 (([a,b].drop 1).take (Tryz.prog.cellsOf 23)):=hf 1 _ x1 rfl rfl
     simp only[zuZ,zrE,List.drop_zero,List.drop_succ_cons,List.take_succ_cons,List.take_zero]at f0 f1
     obtain⟨v0,e0⟩:=zel enT Tryz.underlying22 zsS f0 (fun k hk d ts ht=>by
      obtain⟨u,hu⟩:=zvd ht
      exact⟨u,by rw[zua];first|exact hu|(rw[hu];rfl)⟩)
     obtain⟨v1,e1⟩:=zel nodT Tryz.underlying23 zof f1 (fun k hk d ts ht=>by
      obtain⟨u,hu⟩:=zuq ht
      exact⟨u,by rw[ztk];first|exact hu|(rw[hu];rfl)⟩)
     simp only[List.cons.injEq,and_true]at e0 e1
     subst e0 e1
     refine⟨⟨v0,v1⟩,?_⟩
     skip
     rfl
end Go.Proofs.YtcbhlhmebbkgnaaGreat
namespace Go.Proofs.YtcbhlhmebbkgnaaGreat
open Go Go.TL
variable {H:Type}
def zmb(P:Program):Nat->List Field->Nat->Bool
 | o,[],e=>Nat.beq o e
 | o,g::gs,e=>Nat.beq g.offset o && zmb P (o+P.cellsOf g.type) gs e
def zqz(P:Program)(t:TypeId):Bool:=match P.underlying t with
 | some (.struct fs)=>zmb P 0 fs.toList (P.cellsOf t)
 | _=>true
theorem zll{P:Program}:∀(gs:List Field) (xs:List (DataW H)) (o e:Nat) (ts:List T),gs.length=xs.length->zmb P o gs e=true->ts.length=e->
  (∀(j:Nat) g x,gs[j]?=some g->xs[j]?=some x->((((ts.drop g.offset).take (P.cellsOf g.type)).map T.w).sum+1≤2*Rows.uptoBulk x))->((ts.drop o).map T.w).sum≤2*Rows.uptoBulkAll xs
 | [],[],o,e,ts,_,ht,hl,_=>by
   simp[zmb]at ht
   rw[List.drop_of_length_le (by omega)];simp
 | g::gs,x::xs,o,e,ts,hlen,ht,hl,h=>by
   simp only[zmb,Bool.and_eq_true,Nat.beq_eq]at ht
   obtain⟨h1,h2⟩:=ht
   have ih:=zll gs xs (o+P.cellsOf g.type) e ts (by simpa using hlen) h2 hl (fun j g x hg hx=>h (j+1) g x (by simpa using hg) (by simpa using hx))
   have h0:=h 0 g x rfl rfl
   rw[h1]at h0
   have hs:ts.drop o=(ts.drop o).take (P.cellsOf g.type)++ts.drop (o+P.cellsOf g.type):=by
    rw[<-List.drop_drop,List.take_append_drop]
   rw[hs,List.map_append,List.sum_append]
   simp only[Rows.uptoBulkAll]
   omega
 | [],_::_,_,_,_,hlen,_,_,_=>by simp at hlen
 | _::_,[],_,_,_,hlen,_,_,_=>by simp at hlen
theorem zsh{P:Program}{l:List TypeId}(hP:zcf P l=true)(hT:∀t∈l,zqz P t=true):∀(n:Nat) (t:TypeId),t∈l->∀(d:DataW H) (ts:List T),TyD P n t d ts->(ts.map T.w).sum+1≤2*Rows.uptoBulk d
 | 0,_,_,_,_,h=>h.elim
 | n+1,t,htl,d,ts,h=>by
   unfold TyD at h
   have ht:=hT t htl
   have hcl:=List.all_eq_true.1 hP t htl
   unfold zqz at ht
   split at h
   ·obtain⟨b,rfl,rfl⟩:=h;simp[Rows.uptoBulk,T.w,strW]
   ·obtain⟨i,rfl,rfl,_⟩:=h;simp[Rows.uptoBulk,T.w,strW]
   ·obtain⟨l,rfl,rfl,_⟩:=h
    have:(T.v (str l)).w=1+l.length:=w_s l
    simp only[List.map_cons,List.map_nil,List.sum_cons,List.sum_nil,Rows.uptoBulk]
    omega
   ·rename_i e hu
    have hel:e∈l:=by rw[hu]at hcl;simp at hcl;exact hcl.1.2
    obtain⟨els,sp,es,hd,rfl,hl,_,he⟩:=h
    have key:∀(es:List T) (els:List (DataW H)),es.length=els.length->(∀(i:Nat) x y,els[i]?=some x->es[i]?=some y->y=mkT (aggB P e) y.cells/\TyD P n e x y.cells)->(es.map T.w).sum≤2*Rows.uptoBulkAll els:=by
     intro es
     induction es with
     | nil=>intro els hl _;simp
     | cons y es ih=>
       intro els hl he
       cases els with
       | nil=>simp at hl
       | cons x els=>
         have h1:=ih els (by simpa using hl) (fun i x y hx hy=>he (i+1) x y (by simpa using hx) (by simpa using hy))
         obtain⟨g1,g2⟩:=he 0 x y rfl rfl
         have h2:=zsh hP hT n e hel x y.cells g2
         have h3:y.w≤(y.cells.map T.w).sum+1:=by
          cases y with
          | ag cs=>rw[w_ag];simp[T.cells];omega
          | v x=>simp[T.cells]
          | sl sz es=>simp[T.cells]
         simp only[List.map_cons,List.sum_cons,Rows.uptoBulkAll]
         omega
    have hk:=key es els hl he
    have hw:((T.sl (P.cellsOf e) es).w)=1+(es.map T.w).sum:=w_sl _ _
    simp only[List.map_cons,List.map_nil,List.sum_cons,List.sum_nil]
    rcases hd with ⟨rfl,rfl⟩|rfl
    ·simp[Rows.uptoBulkAll]at hk
     simp only[Rows.uptoBulk];omega
    ·simp only[Rows.uptoBulk];omega
   ·rename_i fs hu
    obtain⟨xs,rfl,hl,hx,hf⟩:=h
    rw[hu]at ht
    have:=zll fs.toList xs 0 (P.cellsOf t) ts (by simpa using hx.symm) ht hl (fun j g x hg hx=>zsh hP hT n g.type (by rw[hu]at hcl;exact List.contains_iff_mem.1 (List.all_eq_true.1 hcl g (List.mem_of_getElem? hg))) x _ (hf j g x (by simpa using hg) hx))
    simp only[List.drop_zero]at this
    simp only[Rows.uptoBulk];omega
   ·exact h.elim
end Go.Proofs.YtcbhlhmebbkgnaaGreat
