import Derived.Test.YtpnnpgbaiobbjaaGreatDoorCk14
set_option linter.all false
namespace Go.Proofs.YtpnnpgbaiobbjaaGreatDoor
open Go Go.TL
attribute [local irreducible] TR TO Then zao RetK Sound zab Kf GG za1
abbrev zco (es:List En)(n q:Int):Blk:=.cells [.t (ensT es),.i n,.i q]
abbrev ziu (n q c:Int):SV:=.ifc 119 (.t (.ag [T.i n,T.i q,T.i c]))
abbrev LS (f:FuncId)(args:List SV)(es:List En)(n q c:Int):Prop:=Sound Tryz.prog f (.ref 0 0::args) [zco es n q] (Err c (.tup []) (ziu n q c) [zco es n q])
theorem retF{rs:List ResultVar}{env:Env}{H:Heap}{es:List En}{n q c c':Int}(h0:c'≠0)(hc:c'=c)(hN:Nat.ble 1 H.length=true)(hb:zac H.length H=true):
  RetK tab rs 1 (Err0 c (.tup []) (ziu n q c) [zco es n q] 1) (.panic (ziu n q c')) env H:=by
 subst hc;exact RetK.errP h0 hN rfl hb
theorem retN{env:Env}{H:Heap}{es:List En}{n q c:Int}(hc:c=0)(hk:Nat.ble 1 H.length=true)(ht:H.take 1=[zco es n q]):
  RetK tab [] 1 (Err0 c (.tup []) (ziu n q c) [zco es n q] 1) .normal env H:=RetK.errN (vs:=[]) hc rfl (Le.refl _) rfl hk rfl ht rfl
theorem we{G Q1 Q2:Prop}{f:FuncId}{cargs:List SV}{v pv:SV}{c:Int}{Hc H1:Heap}(hs:Sound Tryz.prog f cargs Hc (Err c v pv H1))(k1:Q1)(k2:Q2)(h:Sound Tryz.prog f cargs Hc (Err c v pv H1)->Hold Q1->Hold Q2->G:=by
  intro hs k1 k2
  first
  | (apply TO.zky 1 hs;(iterate 3 exact rfl);exact zqb;(iterate 9 exact rfl);exact k1.p;exact k2.p)
  | (apply TO.zky 2 hs;(iterate 3 exact rfl);exact zqb;(iterate 9 exact rfl);exact k1.p;exact k2.p)):G:=h hs ⟨k1⟩ ⟨k2⟩
theorem zq6(es:List En)(n q e:Int):Sound Tryz.prog 71 [.ref 0 0,.b true,.i e] [zco es n q] (fun r H'=>r= .ret (.tup [])/\H'=[zco es n q]):=by
 refine so Tryz.func71 ?_
 repeat' (first|refine wu ?_|exact wkc|intro hc|refine wk2 ?_ ?_|fail)
 exact RetK.ziw 1 (vs:=[]) rfl (Le.refl _) rfl rfl rfl rfl rfl ⟨rfl,rfl⟩
theorem zq5(es:List En)(n q e:Int)(he:e≠0):LS 71 [.b false,.i e] es n q e:=by
 refine Sound.err rfl (fun _=>rfl) ?_
 refine so Tryz.func71 ?_
 repeat' (first|refine wu ?_|exact wkc|intro hc|refine wk2 ?_ ?_|(apply TO.makeInterface;exact rfl;kernel_rfl;exact rfl)|(apply TO.panic;exact rfl)|fail)
 exact retF he rfl rfl rfl
section
variable {n:Nat}{env:Env}{K:TK}{all:Array Oper}{rest:List Oper}{d:Nat}{ty:TypeId}{pos:String}{aft:Array Edge}{es:List En}{a q e:Int}{H Hr:Heap}{args:Array Operand}{ts:Array TypeId}
theorem TO.zv8(hd:Nat.ble (d+1) n=true)(ha:env.vals args.toList=some [.ref 0 0,.b true,.i e])(h1:H=zco es a q::Hr)(k:TO false Tryz.prog n all rest ((d,.tup [])::env) H K):
  TO false Tryz.prog n all (⟨some d,.call { callee:=.value (.func 71),args:=args,argTypes:=ts },ty,pos,aft,none⟩::rest) env H K:=by
 subst h1
 exact TO.zaF 1 (zq6 es a q e) hd rfl ha ⟨Le.refl _,Le.refl _,Le.refl _,trivial⟩ (by simp) rfl rfl rfl rfl rfl rfl (by simp[za4]) k
theorem TO.zvw(hd:Nat.ble (d+1) n=true)(ha:env.vals args.toList=some [.ref 0 0,.b false,.i e])(h1:H=zco es a q::Hr)(he:e≠0)(k:K (.panic (ziu a q e)) env (.dead::Hr)):
  TO false Tryz.prog n all (⟨some d,.call { callee:=.value (.func 71),args:=args,argTypes:=ts },ty,pos,aft,none⟩::rest) env H K:=by
 subst h1
 exact TO.zky 1 (zq5 es a q e he) hd rfl ha ⟨Le.refl _,Le.refl _,Le.refl _,trivial⟩ (by simp) rfl rfl rfl rfl rfl rfl rfl (by simp[za4];rfl) (fun h=>absurd h he) (fun _=>k)
end
theorem wm{G Q:Prop}(k:Q)(h:Hold Q->G:=by
  intro k
  first
  | (apply Go.Proofs.YtpnnpgbaiobbjaaGreatDoor.TO.zv8;(iterate 3 exact rfl);exact k.p)
  | (apply Go.Proofs.YtpnnpgbaiobbjaaGreatDoor.TO.zvw;(iterate 3 exact rfl);decide;exact k.p)
  | (apply Go.Proofs.YtpnnpgbaiobbjaaGreatDoor.TO.zvw;(iterate 3 exact rfl);assumption;exact k.p)):G:=h ⟨k⟩
theorem zbB(es:List En)(n q:Int)(s:Str):LS 122 [.s s] es n q (zcx s):=by
 refine Sound.err rfl (fun _=>rfl) ?_
 have hi:=zhJ s
 unfold zcx
 refine so Tryz.func122 ?_
 repeat' (first|refine wu ?_|exact wkc|intro hc|refine wk2 ?_ ?_|refine wb hi ?_ ?_|refine wm ?_|fail)
 ·exact retN (if_pos hc) rfl rfl
 ·apply retF
  ·decide
  ·rw[if_neg (by simp[hc])]
  ·exact rfl
  ·exact rfl
theorem ze8(es:List En)(n q e:Int):LS 126 [.i e] es n q e:=by
 refine Sound.err rfl (fun _=>rfl) ?_
 refine so Tryz.func126 ?_
 repeat' (first|refine wu ?_|exact wkc|intro hc|refine wk2 ?_ ?_|refine wm ?_|fail)
 ·exact retN hc rfl rfl
 ·exact retF hc rfl rfl rfl
theorem zaG{α:Type}{f:α->Int}{l:List α}{k:Nat}(hk:k<l.length)(h:zaf f (l.take k)=0)(hn:f l[k]≠0):zaf f l=f l[k]:=by
 conv=>lhs;rw[<-qaV k l]
 rw[zcM,if_pos h,qbn hk,zaf,if_neg hn]
theorem zaq{α:Type}{f:α->Int}{l:List α}{k:Nat}(hk:k<l.length)(h:zaf f (l.take k)=0)(hz:f l[k]=0):zaf f (l.take (k+1))=0:=by
 rw[qax hk,zcM,if_pos h,zaf,if_pos hz,zaf]
theorem zaH{α:Type}{f:α->Int}{l:List α}(h:zaf f (l.take l.length)=0):zaf f l=0:=by rwa [qag]at h
theorem at_s{l:List Str}{k:Nat}(h:k<l.length):(l.map T.s)[k]?=some (T.s l[k]):=by simp[h]
theorem zu8{l:List OnC}{k:Nat}(h:k<l.length):(l.map onT)[k]?=some (.ag [.s l[k].name,T.n l[k].t,T.n l[k].tag]):=zas onT h
theorem zml(es:List En)(n q:Int)(u:En)(hw:u.tags.length≤1000000000):LS 72 [.t (.ag [.s u.name,.sl 1 (u.tags.map T.s)])] es n q (zfs u):=by
 refine Sound.err rfl (fun _=>rfl) ?_
 have hi:=zbB es n q u.name
 have hml:(u.tags.map T.s).length=u.tags.length:=qaa _
 have hz:zfs u=zfs u:=rfl
 conv at hz=>rhs;unfold zfs orE
 generalize zfs u=z at hz⊢
 refine so Tryz.func72 ?_
 repeat' (first|refine wu ?_|exact wkc|intro hc|refine wk2 ?_ ?_|refine we hi ?_ ?_|refine wm ?_|fail)
 all_goals first
  | (apply retF;assumption;(rw[hz];clear hi;grind);exact rfl;exact rfl)
  | (apply retF;decide;(rw[hz];clear hi;grind);exact rfl;exact rfl)
  | skip
 have hz2:z=zaf zcx u.tags:=by rw[hz];clear hi;grind
 clear hz
 generalize u.tags=l at*
 refine TR.zal l.length (fun k=>zaf zcx (l.take k)=0) (fun k=>[(0,.ref 0 0),(23,.t (.sl 1 (l.map T.s))),(24,.i (l.map T.s).length),(25,.i k)]) (fun _=>[zco es n q]) rfl (fun k hlt ha=>?_) (fun ha=>?_)
 ·have hx:=at_s hlt
  have h1:=zaG (f:=zcx) hlt ha
  have h2:=zaq (f:=zcx) hlt ha
  generalize l[k]=x at*
  have hs:=zbB es n q x
  repeat' (first|refine wu ?_|exact wkc|intro hc|refine wk2 ?_ ?_|refine we hs ?_ ?_|fail)
  ·exact zab.zaw hlt (h2 hc)
  ·refine zab.panic ?_
   repeat' (first|refine wu ?_|exact wkc|intro hc|refine wk2 ?_ ?_|fail)
   exact retF hc (by rw[hz2,h1 hc]) rfl rfl
 ·repeat' (first|refine wu ?_|exact wkc|intro hc|refine wk2 ?_ ?_|fail)
  exact retN (by rw[hz2,zaH ha]) rfl rfl
theorem zc5(es:List En)(n q:Int)(l:List Decl)(port:Bool)(hw:(zad l).w≤1000000000):LS 123 [.t (zad l),.b port] es n q (zaf (zfo es port) l):=by
 refine Sound.err rfl (fun _=>rfl) ?_
 have hml:(l.map zaa).length=l.length:=qaa _
 have hlb:l.length≤1000000000:=qaF (qbu (zai zaa 3 l)) hw
 refine so Tryz.func123 ?_
 repeat' (first|refine wu ?_|exact wkc|intro hc|refine wk2 ?_ ?_|fail)
 refine TR.zal l.length (fun k=>zaf (zfo es port) (l.take k)=0) (fun k=>[(0,.ref 0 0),(2,.b port),(10,.t (zad l)),(11,.i (l.map zaa).length),(12,.i k)]) (fun _=>[zco es n q]) rfl (fun k hlt ha=>?_) (fun ha=>?_)
 ·have hx:=zcQ hlt
  have h1:=zaG (f:=zfo es port) hlt ha
  have h2:=zaq (f:=zfo es port) hlt ha
  have hcl:=zai onT 3 l[k].clock
  have hwx:=zat (f:=zaa) (sz:=3) (qad hlt)
  rw[show zaa l[k]= .ag (zeR l[k]) from rfl,w_ag]at hwx
  generalize l[k]=x at*
  simp only[zeR,qaj,qay,qan,qaH]at hwx
  have hmo:(x.clock.map onT).length=x.clock.length:=qaa _
  have hs:=zbB es n q x.name
  have hsz:=zgf es x.ty
  unfold zeR at hx
  have hz:zfo es port x=zfo es port x:=rfl
  conv at hz=>rhs;unfold zfo orE
  generalize zfo es port x=z at hz h1 h2
  cases port
  all_goals
   repeat' (first|refine wu ?_|exact wkc|intro hc|refine wk2 ?_ ?_|refine we hs ?_ ?_|refine wm ?_|refine wv hsz ?_|fail)
  all_goals first
   | (refine zab.panic ?_
      refine wk ?_
      apply retF
      first|assumption|decide
      ·clear hs hsz;grind
      exact rfl
      exact rfl)
   | skip
  all_goals
   have hz2:z=zaf (onE es) x.clock:=by clear hs hsz;grind
   clear hz hs hsz
   generalize x.clock=cl at*
   refine TR.zal cl.length (fun j=>zaf (onE es) (cl.take j)=0) (fun j=>[(0,.ref 0 0),(2,.b _),(10,.t (zad l)),(11,.i (l.map zaa).length),(12,.i k),(47,.t (.sl 3 (cl.map onT))),(48,.i (cl.map onT).length),(49,.i j)]) (fun _=>[zco es n q]) rfl (fun j hlt2 ha2=>?_) (fun ha2=>?_)
   ·have hx2:=zu8 hlt2
    have g1:=zaG (f:=onE es) hlt2 ha2
    have g2:=zaq (f:=onE es) hlt2 ha2
    generalize cl[j]=o at*
    have hs:=zbB es n q o.name
    have hh:=zk2 es o.t o.tag
    have hz:onE es o=onE es o:=rfl
    conv at hz=>rhs;unfold onE orE
    generalize onE es o=z3 at hz g1 g2
    repeat' (first|refine wu ?_|exact wkc|intro hc|refine wk2 ?_ ?_|refine we hs ?_ ?_|refine wm ?_|refine wb hh ?_ ?_|fail)
    all_goals first
     | exact zab.zaw hlt2 (g2 (by clear hs hh;grind))
     | (refine zab.panic ?_
        refine wk ?_
        refine zab.panic ?_
        refine wk ?_
        apply retF
        first|assumption|decide
        ·clear hs hh;grind
        exact rfl
        exact rfl)
   ·have hz3:=zaH ha2
    refine wk ?_
    repeat' (first|refine wu ?_|exact wkc|intro hc|refine wk2 ?_ ?_|fail)
    exact zab.zaw hlt (h2 (by rw[hz2,hz3]))
 ·repeat' (first|refine wu ?_|exact wkc|intro hc|refine wk2 ?_ ?_|fail)
  exact retN (zaH ha) rfl rfl
def allF(g:Ex->Bool)(H1:Heap)(_:List Ex)(x:Ex):Out:=if g x=true then .go else .jump .ret H1
theorem zoa(g:Ex->Bool)(H1:Heap):∀(l pre:List Ex),za8 (allF g H1) pre l=if l.all g=true then .go else .jump .ret H1
 | [],pre=>by simp[za8]
 | x::l,pre=>by
   simp only[za8,allF,qbH,qaA]
   by_cases h:g x=true
   ·simp only[h,if_true,true_and];exact zoa g H1 l _
   ·simp[h]
theorem zib(e:Ex)(h:wEx e≤1000000000):Pure Tryz.prog 257 [.t (.ag (exC e))] (.b (sless e)):=by
 have hs:=zcj e
 rw[zax]at hs
 have hc0:exC e=[T.n e.kind,T.n e.op,T.n e.t,T.n e.v,.s e.name,.sl 6 (e.args.map exT)]:=rfl
 rw[hc0]at hs⊢
 unfold sless
 refine so Tryz.func257 ?_
 repeat' (first|refine wkb ?_|refine wk ?_|exact wkc|intro hc|refine wk2 ?_ ?_|refine wv hs ?_|fail)
 refine TR.zcY e (fun _=>[.cells [.b false]]) (allF (fun x=>zlA x.kind.1) [.cells [.b false]]) rfl h rfl rfl rfl (fun _=>⟨rfl,rfl⟩) (fun pre x=>?_) (fun fn pre x post hw=>?_) (fun fn=>?_)
 ·unfold allF
  split <;> rename_i hq <;> split at hq <;> cases hq
  ·trivial
  ·exact⟨rfl,rfl⟩
 ·have hcx:exC x=[T.n x.kind,T.n x.op,T.n x.t,T.n x.v,.s x.name,.sl 6 (x.args.map exT)]:=rfl
  rw[hcx]
  repeat' (first|refine wu ?_|exact wkc|intro hc|refine wk2 ?_ ?_|fail)
  refine⟨rfl,?_⟩
  repeat' (first|refine wu ?_|exact wkc|intro hc|refine wk2 ?_ ?_|fail)
  all_goals first
   | (refine⟨_,?_,rfl,rfl⟩
      rw[allF,if_neg (by clear hs hc0 hcx;simp[zlA];omega)]
      rfl)
   | (refine⟨?_,rfl,rfl⟩
      rw[allF,if_pos (by clear hs hc0 hcx;simp[zlA];omega)])
 ·rw[zoa]
  by_cases h2:((flat e).all fun x=>zlA x.kind.1)=true
  ·exact zwdq
  ·rw[if_neg h2,qcc _ |>.mp h2]
   simp only[]
   repeat' (first|refine wu ?_|exact wkc|intro hc|refine wk2 ?_ ?_|fail)
   exact wkr
theorem zrO{q:Equ}:wEx q.right≤(equT q).w:=by
 have h:=zdi q.right
 rw[zax,w_ag]at h
 rw[show equT q= .ag (.sl 1 (q.left.map T.s)::exC q.right) from rfl,w_ag,qaj,qan]
 have:=zki (.sl 1 (q.left.map T.s))
 omega
theorem zdb{q:Equ}:q.left.length≤(equT q).w:=by
 have h:=zai T.s 1 q.left
 rw[show equT q= .ag (.sl 1 (q.left.map T.s)::exC q.right) from rfl,w_ag,qaj,qan]
 omega
def equC(q:Equ):List T:=.sl 1 (q.left.map T.s)::[T.n q.right.kind,T.n q.right.op,T.n q.right.t,T.n q.right.v,.s q.right.name,.sl 6 (q.right.args.map exT)]
theorem ziK{l:List Equ}{k:Nat}(h:k<l.length):(l.map equT)[k]?=some (.ag (equC l[k])):=zas equT h
theorem ziZ(es:List En)(n q:Int)(u:Equ)(hw:(equT u).w≤1000000000):LS 124 [.t (.ag (equC u))] es n q (equE es u):=by
 refine Sound.err rfl (fun _=>rfl) ?_
 have hx:=zdO es u.right (qaF zrO hw)
 have hlb:u.left.length≤1000000000:=qaF zdb hw
 have hml:(u.left.map T.s).length=u.left.length:=qaa _
 have hr:=ze8 es n q (zca es u.right)
 have hz:equE es u=equE es u:=rfl
 conv at hz=>rhs;unfold equE orE
 rw[zax]at hx
 unfold exC at hx
 unfold equC
 generalize equE es u=z at hz⊢
 generalize zca es u.right=xe at*
 refine so Tryz.func124 ?_
 repeat' (first|refine wu ?_|exact wkc|intro hc|refine wk2 ?_ ?_|refine wm ?_|fail)
 all_goals first
  | ((repeat' (first|refine zab.panic ?_|refine wk ?_|fail));apply retF;(first|assumption|decide);(clear hr hx;grind);exact rfl;exact rfl)
  | skip
 generalize u.left=l at*
 refine TR.zal l.length (fun k=>zaf zcx (l.take k)=0) (fun k=>[(0,.ref 0 0),(3,.cp [.sl 1 (l.map T.s),T.n u.right.kind,T.n u.right.op,T.n u.right.t,T.n u.right.v,.s u.right.name,.sl 6 (u.right.args.map exT)] 0),(19,.t (.sl 1 (l.map T.s))),(20,.i (l.map T.s).length),(21,.i k)]) (fun _=>[zco es n q]) rfl (fun k hlt ha=>?_) (fun ha=>?_)
 ·have hx:=at_s hlt
  have h1:=zaG (f:=zcx) hlt ha
  have h2:=zaq (f:=zcx) hlt ha
  generalize l[k]=x at*
  have hs:=zbB es n q x
  repeat' (first|refine wu ?_|exact wkc|intro hc|refine wk2 ?_ ?_|refine we hs ?_ ?_|fail)
  all_goals first
   | exact zab.zaw hlt (h2 hc)
   | ((repeat' (first|refine zab.panic ?_|refine wk ?_|fail));apply retF;(first|assumption|decide);(clear hr hx hs;grind);exact rfl;exact rfl)
 ·have h1:=zaH ha
  repeat' (first|refine wu ?_|exact wkc|intro hc|refine wk2 ?_ ?_|refine wv hx ?_|refine we hr ?_ ?_|refine wm ?_|fail)
  all_goals first
   | ((repeat' (first|refine zab.panic ?_|refine wk ?_|fail));apply retF;(first|assumption|decide);(clear hr hx;grind);exact rfl;exact rfl)
   | exact retN (by clear hr hx;grind) rfl rfl
def zgS(t:Tran):List T:=[T.n t.cond.kind,T.n t.cond.op,T.n t.cond.t,T.n t.cond.v,.s t.cond.name,.sl 6 (t.cond.args.map exT),T.n t.to,.b t.resume]
theorem zlS{l:List Tran}{k:Nat}(h:k<l.length):(l.map zah)[k]?=some (.ag (zgS l[k])):=zas zah h
theorem zkg{t:Tran}:wEx t.cond≤(zah t).w:=by
 have h:=zdi t.cond
 rw[zax,w_ag]at h
 rw[show zah t= .ag (zgS t) from rfl,w_ag]
 simp only[exC,zgS,qaj,qay,qan,qaH]at*
 omega
theorem zgI(es:List En)(n q:Int)(l:List Tran)(states:Int)(strong:Bool)(hw:(T.sl 8 (l.map zah)).w≤1000000000):LS 204 [.t (.sl 8 (l.map zah)),.i states,.b strong] es n q (zaf (zfa es states strong) l):=by
 refine Sound.err rfl (fun _=>rfl) ?_
 have hml:(l.map zah).length=l.length:=qaa _
 have hlb:l.length≤1000000000:=qaF (qbu (zai zah 8 l)) hw
 refine so Tryz.func204 ?_
 repeat' (first|refine wu ?_|exact wkc|intro hc|refine wk2 ?_ ?_|fail)
 refine TR.zal l.length (fun k=>zaf (zfa es states strong) (l.take k)=0) (fun k=>[(0,.ref 0 0),(2,.i states),(3,.b strong),(10,.t (.sl 8 (l.map zah))),(11,.i (l.map zah).length),(12,.i k)]) (fun _=>[zco es n q]) rfl (fun k hlt ha=>?_) (fun ha=>?_)
 ·have hx:=zlS hlt
  have h1:=zaG (f:=zfa es states strong) hlt ha
  have h2:=zaq (f:=zfa es states strong) hlt ha
  have hwx:=zat (f:=zah) (sz:=8) (qad hlt)
  generalize l[k]=x at*
  have hwe:wEx x.cond≤1000000000:=by have:=zkg (t:=x);omega
  have hex:=zdO es x.cond hwe
  have hst:=zib x.cond hwe
  rw[zax]at hex
  unfold exC at hex hst
  unfold zgS at hx
  have hr:=ze8 es n q (zca es x.cond)
  have hz:zfa es states strong x=zfa es states strong x:=rfl
  conv at hz=>rhs;unfold zfa orE
  generalize zfa es states strong x=z at*
  generalize zca es x.cond=xe at*
  generalize sless x.cond=sl at*
  cases strong
  all_goals
   repeat' (first|refine wu ?_|exact wkc|intro hc|refine wk2 ?_ ?_|refine wm ?_|refine wv hex ?_|refine we hr ?_ ?_|refine wb hst ?_ ?_|fail)
  all_goals first
   | exact zab.zaw hlt (h2 (by clear hex hst hr;grind))
   | ((repeat' (first|refine zab.panic ?_|refine wk ?_|fail));apply retF;(first|assumption|decide);(clear hex hst hr hx;grind);exact rfl;exact rfl)
 ·repeat' (first|refine wu ?_|exact wkc|intro hc|refine wk2 ?_ ?_|fail)
  exact retN (zaH ha) rfl rfl
def zdm(a:Auto):List T:=[.sl 6 (a.states.map staT)]
theorem zhh(a:Auto):zae a= .ag (zdm a):=zb6 a
def staC(s:Sta):List T:=[.s s.name,zad s.locals,.sl 7 (s.eqs.map equT),.sl 1 (s.autos.map zae),.sl 8 (s.unl.map zah),.sl 8 (s.unt.map zah)]
theorem zh9(s:Sta):staT s= .ag (staC s):=zbc s
theorem znt{l:List Sta}{k:Nat}(h:k<l.length):(l.map staT)[k]?=some (.ag (staC l[k])):=by rw[<-zh9];exact zas staT h
theorem zhg{l:List Auto}{k:Nat}(h:k<l.length):(l.map zae)[k]?=some (.ag (zdm l[k])):=by rw[<-zhh];exact zas zae h
theorem zd3(s:Sta):(zad s.locals).w+(T.sl 7 (s.eqs.map equT)).w+(T.sl 1 (s.autos.map zae)).w+(T.sl 8 (s.unl.map zah)).w+(T.sl 8 (s.unt.map zah)).w≤(staT s).w:=by
 rw[zh9,w_ag];simp only[staC,qaj,qay,qan,qaH];omega
theorem zbN(a:Auto):(T.sl 6 (a.states.map staT)).w≤(zae a).w:=by
 rw[zhh,w_ag];simp only[zdm,qaj,qay,qan,qaH];omega
theorem zgr(es:List En)(n q:Int):∀(k:Nat) (d:Int),k≤3->d+k=3->∀(a:Auto),(zae a).w≤1000000000->LS 125 [.t (.ag (zdm a)),.i d] es n q (zcv es k a)
 | 0,d,_,hd,a,_=>by
   refine Sound.err rfl (fun _=>rfl) ?_
   unfold zcv zdm
   refine so Tryz.func125 ?_
   repeat' (first|refine wu ?_|exact wkc|intro hc|refine wk2 ?_ ?_|refine wm ?_|fail)
   ·apply retF
    ·decide
    ·rfl
    ·exact rfl
    ·exact rfl
 | k+1,d,hk3,hd,a,hw=>by
   have ih:∀x,(zae x).w≤1000000000->LS 125 [.t (.ag (zdm x)),.i (d+1)] es n q (zcv es k x):=fun x hx=>zgr es n q k (d+1) (by omega) (by omega) x hx
   refine Sound.err rfl (fun _=>rfl) ?_
   have hwa:=zbN a
   have hlb:a.states.length≤1000000000:=by have:=zai staT 6 a.states;omega
   have hml:(a.states.map staT).length=a.states.length:=qaa _
   have hz:zcv es (k+1) a=zcv es (k+1) a:=rfl
   conv at hz=>rhs;unfold zcv orE
   generalize zcv es (k+1) a=z at hz⊢
   generalize zcv es k=F at*
   unfold zdm
   generalize a.states=l at*
   refine so Tryz.func125 ?_
   repeat' (first|refine wu ?_|exact wkc|intro hc|refine wk2 ?_ ?_|refine wm ?_|fail)
   all_goals first
    | ((repeat' (first|refine zab.panic ?_|refine wk ?_|fail));apply retF;(first|assumption|decide);(clear ih;grind);exact rfl;exact rfl)
    | (exfalso;omega)
    | skip
   have hz2:z=zaf (stE es F (l.length:Int)) l:=by clear ih;grind
   clear hz
   refine TR.zal l.length (fun k=>zaf (stE es F (l.length:Int)) (l.take k)=0) (fun k=>[(0,.ref 0 0),(2,.i d),(4,.cp [.sl 6 (l.map staT)] 0),(29,.t (.sl 6 (l.map staT))),(30,.i (l.map staT).length),(31,.i k)]) (fun _=>[zco es n q]) rfl (fun j hlt ha=>?_) (fun ha=>?_)
   ·have hx:=znt hlt
    have h1:=zaG (f:=stE es F (l.length:Int)) hlt ha
    have h2:=zaq (f:=stE es F (l.length:Int)) hlt ha
    have hwx:=zat (f:=staT) (sz:=6) (qad hlt)
    generalize l[j]=x at*
    have hws:=zd3 x
    have hl1:=zai equT 7 x.eqs
    have hl2:=zai zae 1 x.autos
    have m1:(x.locals.map zaa).length=x.locals.length:=qaa _
    have m2:(x.eqs.map equT).length=x.eqs.length:=qaa _
    have m3:(x.autos.map zae).length=x.autos.length:=qaa _
    have m4:(x.unl.map zah).length=x.unl.length:=qaa _
    have m5:(x.unt.map zah).length=x.unt.length:=qaa _
    have hi:=zbB es n q x.name
    have hd1:=zc5 es n q x.locals false (by omega)
    have ht1:=zgI es n q x.unl (l.length:Int) true (by omega)
    have ht2:=zgI es n q x.unt (l.length:Int) false (by omega)
    rw[<-hml]at ht1 ht2
    have hz:stE es F (l.length:Int) x=stE es F (l.length:Int) x:=rfl
    conv at hz=>rhs;unfold stE orE
    have heq:∀u,u∈x.eqs->LS 124 [.t (.ag (equC u))] es n q (equE es u):=fun u hu=>ziZ es n q u (by have:=zat (f:=equT) (sz:=7) hu;omega)
    have hau:∀u,u∈x.autos->LS 125 [.t (.ag (zdm u)),.i (d+1)] es n q (F u):=fun u hu=>ih u (by have:=zat (f:=zae) (sz:=1) hu;omega)
    clear ih
    generalize stE es F (l.length:Int) x=zs at hz h1 h2
    rw[<-hml]at hz
    unfold staC at hx
    repeat' (first|refine wu ?_|exact wkc|intro hc|refine wk2 ?_ ?_|refine wm ?_|refine we hi ?_ ?_|refine we hd1 ?_ ?_|fail)
    all_goals first
     | ((repeat' (first|refine zab.panic ?_|refine wk ?_|fail));apply retF;(first|assumption|decide);(clear hi hd1 ht1 ht2 heq hau hx;grind);exact rfl;exact rfl)
     | skip
    refine TR.zal x.eqs.length (fun i=>zaf (equE es) (x.eqs.take i)=0) (fun i=>[(0,.ref 0 0),(2,.i d),(4,.cp [.sl 6 (l.map staT)] 0),(29,.t (.sl 6 (l.map staT))),(30,.i (l.map staT).length),(31,.i j),(7,.cp [.s x.name,zad x.locals,.sl 7 (x.eqs.map equT),.sl 1 (x.autos.map zae),.sl 8 (x.unl.map zah),.sl 8 (x.unt.map zah)] 0),(72,.t (.sl 7 (x.eqs.map equT))),(73,.i (x.eqs.map equT).length),(74,.i i)]) (fun _=>[zco es n q]) rfl (fun i hlt2 ha2=>?_) (fun ha2=>?_)
    ·have hx2:=ziK hlt2
     have g1:=zaG (f:=equE es) hlt2 ha2
     have g2:=zaq (f:=equE es) hlt2 ha2
     have hs:=heq _ (qad hlt2)
     generalize x.eqs[i]=u at*
     unfold equC at hx2 hs
     repeat' (first|refine wu ?_|exact wkc|intro hc|refine wk2 ?_ ?_|refine we hs ?_ ?_|fail)
     all_goals exact zwbi
    have he2:=zaH ha2
    refine wk ?_
    repeat' (first|refine wu ?_|exact wkc|intro hc|refine wk2 ?_ ?_|fail)
    refine TR.zal x.autos.length (fun i=>zaf F (x.autos.take i)=0) (fun i=>[(0,.ref 0 0),(2,.i d),(4,.cp [.sl 6 (l.map staT)] 0),(29,.t (.sl 6 (l.map staT))),(30,.i (l.map staT).length),(31,.i j),(7,.cp [.s x.name,zad x.locals,.sl 7 (x.eqs.map equT),.sl 1 (x.autos.map zae),.sl 8 (x.unl.map zah),.sl 8 (x.unt.map zah)] 0),(83,.t (.sl 1 (x.autos.map zae))),(84,.i (x.autos.map zae).length),(85,.i i)]) (fun _=>[zco es n q]) rfl (fun i hlt2 ha2=>?_) (fun ha2=>?_)
    ·have hx2:=zhg hlt2
     have g1:=zaG (f:=F) hlt2 ha2
     have g2:=zaq (f:=F) hlt2 ha2
     have hs:=hau _ (qad hlt2)
     generalize x.autos[i]=u at*
     unfold zdm at hx2 hs
     repeat' (first|refine wu ?_|exact wkc|intro hc|refine wk2 ?_ ?_|refine we hs ?_ ?_|fail)
     all_goals exact zwbi
    have he3:=zaH ha2
    refine wk ?_
    repeat' (first|refine wu ?_|exact wkc|intro hc|refine wk2 ?_ ?_|refine we ht1 ?_ ?_|refine we ht2 ?_ ?_|fail)
    all_goals first
     | exact zab.zaw hlt (h2 (by clear hi hd1 ht1 ht2 heq hau hx;grind))
     | ((repeat' (first|refine zab.panic ?_|refine wk ?_|fail));apply retF;(first|assumption|decide);(clear hi hd1 ht1 ht2 heq hau hx;grind);exact rfl;exact rfl)
   ·repeat' (first|refine wu ?_|exact wkc|intro hc|refine wk2 ?_ ?_|fail)
    exact retN (by rw[hz2,zaH ha]) rfl rfl
theorem zlU(es:List En)(n q:Int)(a:Auto)(hw:(zae a).w≤1000000000):LS 125 [.t (.ag (zdm a)),.i 0] es n q (zcv es 3 a):=zgr es n q 3 0 (qaf _) rfl a hw
theorem wka{G Q:Prop}(k:Q)(h:Hold Q->G:=by
  (intro k;apply TO.zpv zag;(iterate 9 exact rfl);exact leB;exact k.p)):G:=h ⟨k⟩
theorem retQ{rs:List ResultVar}{env:Env}{H H1:Heap}{v:SV}{n q q' c c':Int}(h0:c'≠0)(hc:c'=c)(hq:q'=q)(hN:Nat.ble 1 H.length=true)(hb:zac H.length H=true):
  RetK tab rs 1 (Err0 c v (ziu n q c) H1 1) (.panic (ziu n q' c')) env H:=by
 subst hc hq;exact RetK.errP h0 hN rfl hb
theorem zhC{α:Type}{f:α->Int}{l:List α}{k:Nat}(hk:k<l.length)(h:zaf f (l.take k)=0)(hn:f l[k]≠0):zcS f l=((k:Int),f l[k]):=by
 conv=>lhs;rw[<-qaV k l]
 rw[zfA,if_pos h,qbn hk,zaf,if_neg hn,if_neg hn,zcS,if_neg hn]
 simp;omega
theorem zdH(n:Nod):(zad n.ins).w+(zad n.outs).w+(zad n.locals).w+(T.sl 7 (n.eqs.map equT)).w+(T.sl 1 (n.autos.map zae)).w+(T.sl 6 (n.assume.map exT)).w+(T.sl 6 (n.ensure.map exT)).w≤(nodT n).w:=by
 rw[show nodT n= .ag (nodC n) from rfl,w_ag];simp only[nodC,qaj,qay,qan,qaH];omega
set_option maxHeartbeats 1000000 in
theorem zmQ (es:List En) (a b i:Int) (n:Nod) (hw:(nodT n).w≤1000000000):
  Sound Tryz.prog 73 [.ref 0 0,.i i,.t (.ag (nodC n))] [zco es a b] (Err (zci es n).2 (.tup []) (ziu i (zci es n).1 (zci es n).2) [zco es i (-1)]):=by
 refine Sound.err rfl (fun _=>rfl) ?_
 have hwn:=zdH n
 have l1:=zai equT 7 n.eqs
 have l2:=zai zae 1 n.autos
 have l3:=zai exT 6 n.assume
 have l4:=zai exT 6 n.ensure
 have m1:(n.ins.map zaa).length=n.ins.length:=qaa _
 have m2:(n.outs.map zaa).length=n.outs.length:=qaa _
 have m3:(n.locals.map zaa).length=n.locals.length:=qaa _
 have m4:(n.eqs.map equT).length=n.eqs.length:=qaa _
 have m5:(n.autos.map zae).length=n.autos.length:=qaa _
 have m6:(n.assume.map exT).length=n.assume.length:=qaa _
 have m7:(n.ensure.map exT).length=n.ensure.length:=qaa _
 have hi:=zbB es i (-1) n.name
 have hd1:=zc5 es i (-1) n.ins true (by omega)
 have hd2:=zc5 es i (-1) n.outs true (by omega)
 have hd3:=zc5 es i (-1) n.locals false (by omega)
 have heq:∀(q:Int) u,u∈n.eqs->LS 124 [.t (.ag (equC u))] es i q (equE es u):=fun q u hu=>ziZ es i q u (by have:=zat (f:=equT) (sz:=7) hu;omega)
 have hau:∀u,u∈n.autos->LS 125 [.t (.ag (zdm u)),.i 0] es i (-1) (zcv es 3 u):=fun u hu=>zlU es i (-1) u (by have:=zat (f:=zae) (sz:=1) hu;omega)
 have hex:∀u,u∈n.assume\/u∈n.ensure->wEx u≤1000000000:=fun u hu=>by
  have:=zdi u
  rcases hu with hu|hu
  ·have:=zat (f:=exT) (sz:=6) hu;omega
  ·have:=zat (f:=exT) (sz:=6) hu;omega
 have hz:zci es n=zci es n:=rfl
 conv at hz=>rhs;unfold zci zmz zpj orE
 generalize zci es n=z at hz⊢
 unfold nodC
 clear hwn hw
 refine so Tryz.func73 ?_
 repeat' (first|refine wu ?_|exact wkc|intro hc|refine wk2 ?_ ?_|refine wm ?_|refine we hi ?_ ?_|refine we hd1 ?_ ?_|refine we hd2 ?_ ?_|refine we hd3 ?_ ?_|fail)
 all_goals first
  | ((repeat' (first|refine zab.panic ?_|refine wk ?_|fail));apply retQ;(first|assumption|decide);(clear hi hd1 hd2 hd3 heq hau hex;grind);(clear hi hd1 hd2 hd3 heq hau hex;grind);exact rfl;exact rfl)
  | skip
 refine TR.zal n.eqs.length (fun k=>zaf (equE es) (n.eqs.take k)=0) (fun k=>[(0,.ref 0 0),(5,.cp (nC n) 0),(80,.t (.sl 7 (n.eqs.map equT))),(81,.i (n.eqs.map equT).length),(82,.i k)]) (fun k=>[zco es i ((k:Int)-1)]) rfl (fun k hlt ha=>?_) (fun ha=>?_)
 ·have hx:=ziK hlt
  have g1:=zaG (f:=(equE es)) hlt ha
  have g2:=zaq (f:=(equE es)) hlt ha
  have hs:=heq k _ (qad hlt)
  have g3:=zhC (f:=equE es) hlt ha
  generalize n.eqs[k]=u at*
  unfold equC at hx hs
  repeat' (first|refine wkt ?_|refine wka ?_|refine wk ?_|exact wkc|intro hc|refine wk2 ?_ ?_|refine we hs ?_ ?_|fail)
  all_goals first
   | (refine zab.zaw hlt (g2 hc) ?_ (by rw[show((k+1:Nat):Int)-1=k from by omega]);repeat' (first|exact trivial|refine qah rfl ?_|fail))
   | ((repeat' (first|refine zab.panic ?_|refine wk ?_|fail));apply retQ;(first|assumption|decide);(clear hs hi hd1 hd2 hd3 heq hau hex hx;grind);(clear hs hi hd1 hd2 hd3 heq hau hex hx;grind);exact rfl;exact rfl)
 have e1:=zaH ha
 clear hi hd1 hd2 hd3 heq
 refine wk ?_
 repeat' (first|refine wu ?_|exact wkc|intro hc|refine wk2 ?_ ?_|fail)
 refine TR.zal n.autos.length (fun k=>zaf (zcv es 3) (n.autos.take k)=0) (fun k=>[(0,.ref 0 0),(5,.cp (nC n) 0),(101,.t (.sl 1 (n.autos.map zae))),(102,.i (n.autos.map zae).length),(103,.i k)]) (fun k=>[zco es i (-1)]) rfl (fun k hlt ha=>?_) (fun ha=>?_)
 ·have hx:=zhg hlt
  have g1:=zaG (f:=(zcv es 3)) hlt ha
  have g2:=zaq (f:=(zcv es 3)) hlt ha
  have hs:=hau _ (qad hlt)
  generalize n.autos[k]=u at*
  unfold zdm at hx hs
  repeat' (first|refine wu ?_|exact wkc|intro hc|refine wk2 ?_ ?_|refine we hs ?_ ?_|fail)
  all_goals first
   | exact zab.zaw hlt (g2 hc)
   | ((repeat' (first|refine zab.panic ?_|refine wk ?_|fail));apply retQ;(first|assumption|decide);(clear hs hau hex hx;grind);(clear hs hau hex hx;grind);exact rfl;exact rfl)
 have e2:=zaH ha
 clear hau
 refine wk ?_
 repeat' (first|refine wu ?_|exact wkc|intro hc|refine wk2 ?_ ?_|fail)
 refine TR.zal n.assume.length (fun k=>zaf (zca es) (n.assume.take k)=0) (fun k=>[(0,.ref 0 0),(5,.cp (nC n) 0),(112,.t (.sl 6 (n.assume.map exT))),(113,.i (n.assume.map exT).length),(114,.i k)]) (fun k=>[zco es i (-1)]) rfl (fun k hlt ha=>?_) (fun ha=>?_)
 ·have hx:=zfd hlt
  have g1:=zaG (f:=(zca es)) hlt ha
  have g2:=zaq (f:=(zca es)) hlt ha
  have hs:=zdO es _ (hex _ (.inl (qad hlt)))
  rw[zax]at hs
  generalize n.assume[k]=u at*
  exact zwk
 have e3:=zaH ha
 refine wk ?_
 repeat' (first|refine wu ?_|exact wkc|intro hc|refine wk2 ?_ ?_|fail)
 refine TR.zal n.ensure.length (fun k=>zaf (zca es) (n.ensure.take k)=0) (fun k=>[(0,.ref 0 0),(5,.cp (nC n) 0),(128,.t (.sl 6 (n.ensure.map exT))),(129,.i (n.ensure.map exT).length),(130,.i k)]) (fun k=>[zco es i (-1)]) rfl (fun k hlt ha=>?_) (fun ha=>?_)
 ·have hx:=zfd hlt
  have g1:=zaG (f:=(zca es)) hlt ha
  have g2:=zaq (f:=(zca es)) hlt ha
  have hs:=zdO es _ (hex _ (.inr (qad hlt)))
  rw[zax]at hs
  generalize n.ensure[k]=u at*
  exact zwk
 have e4:=zaH ha
 refine wk ?_
 repeat' (first|refine wu ?_|exact wkc|intro hc|refine wk2 ?_ ?_|fail)
 refine RetK.errN (vs:=[]) ?_ rfl (Le.refl _) rfl rfl rfl rfl rfl
 clear hex;grind
end Go.Proofs.YtpnnpgbaiobbjaaGreatDoor
