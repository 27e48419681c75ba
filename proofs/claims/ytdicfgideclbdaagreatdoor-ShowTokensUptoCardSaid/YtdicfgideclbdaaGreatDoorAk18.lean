import Derived.Test.YtdicfgideclbdaaGreatDoorAk17
set_option maxHeartbeats 64000000
set_option linter.all false
namespace Go.Proofs.YtdicfgideclbdaaGreatDoor
open Go Go.TL
attribute [local irreducible] TR TO Then zaj RetK Sound zac Kf GG zaQ
variable {sz k:Nat}{es:List En}{α:Type}{rs:List ResultVar}{env:Env}{H Hc H1:Heap}{q:Equ}{c:Int}{f:FuncId}{cargs:List SV}{pv:SV}
def orE(a b:Int):Int:=if a=0 then b else a
def zcg(s:Str):Int:=if ident s=true then 0 else 6
def onE(es:List En)(o:OnC):Int:=orE (zcg o.name) (if o.t.1≠2/\hasT es o.t.1 o.tag.1=true then 0 else 5)
def zfh(es:List En)(port:Bool)(d:Decl):Int:=
 orE (zcg d.name) (orE (if 0<zbf es d.ty.1 then 0 else 10) (orE (if port=true/\d.clock.length≠0 then 11 else 0) (orE (if d.clock.length≤4 then 0 else 3) (zad (onE es) d.clock))))
def equE(es:List En)(q:Equ):Int:=
 orE (if q.left.length=0 then 8 else 0) (orE (if q.left.length≤64 then 0 else 3) (orE (zad zcg q.left) (orE (zbi es q.right) (if q.left.length=1\/q.right.kind.1=10 then 0 else 5))))
def zmB(k:Int):Bool:=decide (k≠5/\k≠6/\k≠7/\k≠10/\k≠11)
def sless(e:Ex):Bool:=(flat e).all fun x=>zmB x.kind.1
def zfi(es:List En)(states:Int)(strong:Bool)(t:Tran):Int:=
 orE (if 0≤t.to.1/\t.to.1<states then 0 else 14) (orE (zbi es t.cond) (if strong=false\/sless t.cond=true then 0 else 5))
def stE(es:List En)(auto:Auto->Int)(n:Int)(s:Sta):Int:=
 orE (zcg s.name) (orE (if s.locals.length≤256/\s.eqs.length≤256/\s.autos.length≤8/\s.unl.length≤4/\s.unt.length≤4 then 0 else 3)
  (orE (zad (zfh es false) s.locals) (orE (zad (equE es) s.eqs) (orE (zad auto s.autos) (orE (zad (zfi es n true) s.unl) (zad (zfi es n false) s.unt))))))
def zdl(es:List En):Nat->Auto->Int
 | 0,_=>3
 | k+1,a=>orE (if a.states.length=0 then 8 else 0) (orE (if a.states.length≤8 then 0 else 3) (zad (stE es (zdl es k) a.states.length) a.states))
def zew(u:En):Int:=orE (zcg u.name) (orE (if u.tags.length=0 then 8 else 0) (orE (if u.tags.length≤16 then 0 else 3) (zad zcg u.tags)))
def zlV(es:List En)(n:Nod):Int:=
 orE (zcg n.name) (orE (if n.ins.length≤64/\n.outs.length≤64/\n.locals.length≤256/\n.eqs.length≤256/\n.autos.length≤8/\n.assume.length≤8/\n.ensure.length≤8 then 0 else 3)
  (orE (if n.outs.length=0 then 8 else 0) (orE (zad (zfh es true) n.ins) (orE (zad (zfh es true) n.outs) (zad (zfh es false) n.locals)))))
def zod(es:List En)(n:Nod):Int:=orE (zad (zdl es 3) n.autos) (orE (zad (zbi es) n.assume) (zad (zbi es) n.ensure))
def zdr{α:Type}(g:α->Int):List α->Int×Int
 | []=>(0,0)
 | x::l=>if g x=0 then(if(zdr g l).2=0 then(0,0) else((zdr g l).1+1,(zdr g l).2)) else(0,g x)
theorem zcv{α:Type}(g:α->Int):∀(l:List α),(zdr g l).2=zad g l
 | []=>rfl
 | x::l=>by
   simp only[zdr,zad];rw[<-zcv g l];split
   ·split <;> simp_all
   ·rfl
theorem zfW{α:Type}(g:α->Int):∀(a b:List α),zdr g (a++b)=if zad g a=0 then(if zad g b=0 then(0,0) else((zdr g b).1+a.length,zad g b)) else zdr g a
 | [],b=>by
   have:=zcv g b
   simp only[qaP,zad,if_true,qal];split
   ·rename_i h;cases b with
    | nil=>rfl
    | cons x l=>
      simp only[zdr,zad]at*;grind
   ·rw[<-this];simp
 | x::a,b=>by
   have h1:=zcv g (a++b);have h2:=zcv g a;have h3:=zcY g a b;simp only[qaZ,zdr,zad,zfW g a b,qae]at*;grind
def zcp(es:List En)(n:Nod):Int×Int:=
 if zlV es n≠0 then(-1,zlV es n) else if zad (equE es) n.eqs≠0 then zdr (equE es) n.eqs else(-1,zod es n)
def limE(p:Prog):Int:=if p.enums.length≤24/\p.nodes.length≤96 then 0 else 3
def zaX(p:Prog):(Int×Int)×Int:=
 if limE p≠0 then((-1,-1),limE p) else if zad zew p.enums≠0 then((-1,-1),zad zew p.enums) else
 if zad (fun n=>(zcp p.enums n).2) p.nodes=0 then((0,0),0) else
  let i:=(zdr (fun n=>(zcp p.enums n).2) p.nodes).1
  ((i,((p.nodes[i.toNat]?).map fun n=>(zcp p.enums n).1).getD 0),zad (fun n=>(zcp p.enums n).2) p.nodes)
def strW:Value->Nat
 | .string s=>s.size
 | _=>0
def _root_.Go.TL.T.w:T->Nat
 | .v x=>1+strW x
 | .sl _ es=>1+(es.attach.map fun x=>x.1.w).sum
 | .ag cs=>1+(cs.attach.map fun x=>x.1.w).sum
decreasing_by
 all_goals
  have:=qbw x.2
  simp;omega
theorem w_sl(sz:Nat)(es:List T):(T.sl sz es).w=1+(es.map T.w).sum:=by rw[T.w];simp
theorem w_ag(cs:List T):(T.ag cs).w=1+(cs.map T.w).sum:=by rw[T.w];simp
theorem w_s(s:Str):(T.s s).w=1+s.length:=by rw[T.w];rfl
theorem zmV(t:T):1≤t.w:=by
 cases t with
 | v=>rw[T.w];omega
 | sl=>rw[w_sl];omega
 | ag=>rw[w_ag];omega
theorem zBp(sz:Nat)(es:List T):es.length<(T.sl sz es).w:=by
 have:=zob T.w zmV es
 rw[w_sl];omega
theorem w_in{es:List T}{t:T}(h:t∈es):t.w<(T.sl sz es).w:=by
 have:=ziN T.w h
 rw[w_sl];omega
theorem zaD(f:α->T)(sz:Nat)(l:List α):l.length<(T.sl sz (l.map f)).w:=by
 have:=zBp sz (l.map f);simpa using this
theorem zaY{f:α->T}{l:List α}{x:α}(h:x∈l):(f x).w<(T.sl sz (l.map f)).w:=w_in (List.mem_map_of_mem h)
theorem zAo:∀(m:Nat) (e:Ex),wEx e≤m->wEx e≤(exT e).w
 | 0,e,h=>by have:=zcG e;omega
 | m+1,e,h=>by
   have ih:∀x∈e.args,wEx x≤(exT x).w:=fun x hx=>zAo m x (by have:=zcS hx;omega)
   have hs:(e.args.map wEx).sum≤((e.args.map exT).map T.w).sum:=by
    generalize e.args=l at ih;clear h
    induction l with
    | nil=>simp
    | cons a l ih2=>
      have h1:=ih a oC;have h2:=ih2 (fun x hx=>ih x (by simp[hx]));simp only[qaf,qaG];omega
   rw[zgk,zan,w_ag];simp only[exC,qaf,qaG,w_sl];omega
theorem zj5(e:Ex):wEx e≤(exT e).w:=zAo _ e (qag _)
abbrev zcy (es:List En)(n q:Int):Blk:=.cells [.t (ensT es),.i n,.i q]
abbrev zi5 (n q c:Int):SV:=.ifc 140 (.t (.ag [T.i n,T.i q,T.i c]))
abbrev LS (f:FuncId)(args:List SV)(es:List En)(n q c:Int):Prop:=Sound Tryz.prog f (.ref 0 0::args) [zcy es n q] (Err c (.tup []) (zi5 n q c) [zcy es n q])
theorem retF{n q c':Int}(h0:c'≠0)(hc:c'=c)(hN:Nat.ble 1 H.length=true)(hb:zaa H.length H=true):
  RetK tab rs 1 (Err0 c (.tup []) (zi5 n q c) [zcy es n q] 1) (.panic (zi5 n q c')) env H:=by
 subst hc;exact RetK.errP h0 hN rfl hb
theorem retN{n q:Int}(hc:c=0)(hk:Nat.ble 1 H.length=true)(ht:H.take 1=[zcy es n q]):
  RetK tab [] 1 (Err0 c (.tup []) (zi5 n q c) [zcy es n q] 1) .normal env H:=RetK.errN (vs:=[]) hc rfl (Le.refl _) rfl hk rfl ht rfl
theorem we{G Q1 Q2:Prop}{v:SV}(hs:Sound Tryz.prog f cargs Hc (Err c v pv H1))(k1:Q1)(k2:Q2)(h:Sound Tryz.prog f cargs Hc (Err c v pv H1)->Hold Q1->Hold Q2->G:=by
  intro hs k1 k2
  first
  | (apply TO.zly 1 hs;(iterate 3 exact rfl);exact zqa;(iterate 9 exact rfl);exact k1.p;exact k2.p)
  | (apply TO.zly 2 hs;(iterate 3 exact rfl);exact zqa;(iterate 9 exact rfl);exact k1.p;exact k2.p)):G:=h hs ⟨k1⟩ ⟨k2⟩
theorem zsA(es:List En)(n q e:Int):Sound Tryz.prog 69 [.ref 0 0,.b true,.i e] [zcy es n q] (fun r H'=>r= .ret (.tup [])/\H'=[zcy es n q]):=by
 refine so Tryz.func69 ?_;refine ya ?_;exact RetK.zih 1 (vs:=[]) rfl (Le.refl _) rfl rfl rfl rfl rfl ⟨rfl,rfl⟩
theorem zsz(es:List En)(n q e:Int)(he:e≠0):LS 69 [.b false,.i e] es n q e:=by
 refine Sound.err rfl (fun _=>rfl) ?_;refine so Tryz.func69 ?_;repeat' (first|refine wu ?_|exact wkc|refine wk2 ?_ ?_|(apply TO.makeInterface;exact rfl;kernel_rfl;exact rfl)|(apply TO.panic;exact rfl)|intro hc)
 exact retF he rfl rfl rfl
section
variable {n:Nat}{env:Env}{K:TK}{all:Array Oper}{rest:List Oper}{d:Nat}{ty:TypeId}{pos:String}{aft:Array Edge}{es:List En}{a q e:Int}{H Hr:Heap}{args:Array Operand}{ts:Array TypeId}
theorem TO.zAY(hd:Nat.ble (d+1) n=true)(ha:env.vals args.toList=some [.ref 0 0,.b true,.i e])(h1:H=zcy es a q::Hr)(k:TO false Tryz.prog n all rest ((d,.tup [])::env) H K):
  TO false Tryz.prog n all (⟨some d,.call { callee:=.value (.func 69),args:=args,argTypes:=ts },ty,pos,aft,none⟩::rest) env H K:=by
 subst h1;exact TO.zbI 1 (zsA es a q e) hd rfl ha ⟨Le.refl _,Le.refl _,Le.refl _,trivial⟩ oC rfl rfl rfl rfl rfl rfl (by simp[zbn]) k
theorem TO.zzy(hd:Nat.ble (d+1) n=true)(ha:env.vals args.toList=some [.ref 0 0,.b false,.i e])(h1:H=zcy es a q::Hr)(he:e≠0)(k:K (.panic (zi5 a q e)) env (.dead::Hr)):
  TO false Tryz.prog n all (⟨some d,.call { callee:=.value (.func 69),args:=args,argTypes:=ts },ty,pos,aft,none⟩::rest) env H K:=by
 subst h1;exact TO.zly 1 (zsz es a q e he) hd rfl ha ⟨Le.refl _,Le.refl _,Le.refl _,trivial⟩ oC rfl rfl rfl rfl rfl rfl rfl (by simp[zbn];rfl) (fun h=>oI h he) (fun _=>k)
end
theorem wm{G Q:Prop}(k:Q)(h:Hold Q->G:=by
  intro k
  first
  | (apply Go.Proofs.YtdicfgideclbdaaGreatDoor.TO.zAY;(iterate 3 exact rfl);exact k.p)
  | (apply Go.Proofs.YtdicfgideclbdaaGreatDoor.TO.zzy;(iterate 3 exact rfl);decide;exact k.p)
  | (apply Go.Proofs.YtdicfgideclbdaaGreatDoor.TO.zzy;(iterate 3 exact rfl);assumption;exact k.p)):G:=h ⟨k⟩
theorem zbK(es:List En)(n q:Int)(s:Str):LS 118 [.s s] es n q (zcg s):=by
 refine Sound.err rfl (fun _=>rfl) ?_;have hi:=zid s;unfold zcg;refine so Tryz.func118 ?_;repeat' (first|refine wu ?_|exact wkc|refine wk2 ?_ ?_|refine wb hi ?_ ?_|refine wm ?_|intro hc)
 ·exact retN (oG hc) rfl rfl
 ·apply retF
  ·decide
  ·rw[oH (by simp[hc])]
  ·exact rfl
  ·exact rfl
theorem zfD(es:List En)(n q e:Int):LS 122 [.i e] es n q e:=by
 refine Sound.err rfl (fun _=>rfl) ?_;refine so Tryz.func122 ?_;repeat' (first|refine wu ?_|exact wkc|refine wk2 ?_ ?_|refine wm ?_|intro hc)
 ·exact retN hc rfl rfl
 ·exact retF hc rfl rfl rfl
theorem zaJ{f:α->Int}{l:List α}(hk:k<l.length)(h:zad f (l.take k)=0)(hn:f l[k]≠0):zad f l=f l[k]:=by
 conv=>lhs;rw[<-qaX k l]
 rw[zcY,oG h,qaN hk,zad,oH hn]
theorem zax{f:α->Int}{l:List α}(hk:k<l.length)(h:zad f (l.take k)=0)(hz:f l[k]=0):zad f (l.take (k+1))=0:=by
 rw[qaE hk,zcY,oG h,zad,oG hz,zad]
theorem zaF{f:α->Int}{l:List α}(h:zad f (l.take l.length)=0):zad f l=0:=by rwa [qap]at h
theorem at_s{l:List Str}(h:k<l.length):(l.map T.s)[k]?=some (T.s l[k]):=by simp[h]
theorem zyK{l:List OnC}(h:k<l.length):(l.map onT)[k]?=some (.ag [.s l[k].name,T.n l[k].t,T.n l[k].tag]):=zbc onT h
theorem znt(es:List En)(n q:Int)(u:En)(hw:u.tags.length≤1000000000):LS 70 [.t (.ag [.s u.name,.sl 1 (u.tags.map T.s)])] es n q (zew u):=by
 refine Sound.err rfl (fun _=>rfl) ?_;have hi:=zbK es n q u.name;have hml:(u.tags.map T.s).length=u.tags.length:=qac _;have hz:zew u=zew u:=rfl
 conv at hz=>rhs;unfold zew orE
 generalize zew u=z at hz⊢;refine so Tryz.func70 ?_;repeat' (first|refine wu ?_|exact wkc|refine wk2 ?_ ?_|refine we hi ?_ ?_|refine wm ?_|intro hc)
 all_goals first
  | (apply retF;assumption;(rw[hz];clear hi;grind);exact rfl;exact rfl)
  | (apply retF;decide;(rw[hz];clear hi;grind);exact rfl;exact rfl)
  | skip
 have hz2:z=zad zcg u.tags:=by rw[hz];clear hi;grind
 clear hz;generalize u.tags=l at*;refine TR.zaz l.length (fun k=>zad zcg (l.take k)=0) (fun k=>[(0,.ref 0 0),(23,.t (.sl 1 (l.map T.s))),(24,.i (l.map T.s).length),(25,.i k)]) (fun _=>[zcy es n q]) rfl (fun k hlt ha=>?_) (fun ha=>?_)
 ·have hx:=at_s hlt;have h1:=zaJ (f:=zcg) hlt ha;have h2:=zax (f:=zcg) hlt ha;generalize l[k]=x at*;have hs:=zbK es n q x;repeat' (first|refine wu ?_|exact wkc|refine wk2 ?_ ?_|refine we hs ?_ ?_|intro hc)
  ·exact zac.zaH hlt (h2 hc)
  ·refine zac.panic ?_;repeat' (first|refine wu ?_|exact wkc|refine wk2 ?_ ?_|intro hc)
   exact retF hc (by rw[hz2,h1 hc]) rfl rfl
 ·refine ya ?_;exact retN (by rw[hz2,zaF ha]) rfl rfl
theorem zdq(es:List En)(n q:Int)(l:List Decl)(port:Bool)(hw:(zaw l).w≤1000000000):LS 119 [.t (zaw l),.b port] es n q (zad (zfh es port) l):=by
 refine Sound.err rfl (fun _=>rfl) ?_;have hml:(l.map zak).length=l.length:=qac _;have hlb:l.length≤1000000000:=qax (qb5 (zaD zak 3 l)) hw;refine so Tryz.func119 ?_;repeat' (first|refine wu ?_|exact wkc|refine wk2 ?_ ?_|intro hc)
 refine TR.zaz l.length (fun k=>zad (zfh es port) (l.take k)=0) (fun k=>[(0,.ref 0 0),(2,.b port),(10,.t (zaw l)),(11,.i (l.map zak).length),(12,.i k)]) (fun _=>[zcy es n q]) rfl (fun k hlt ha=>?_) (fun ha=>?_)
 ·have hx:=zd4 hlt;have h1:=zaJ (f:=zfh es port) hlt ha;have h2:=zax (f:=zfh es port) hlt ha;have hcl:=zaD onT 3 l[k].clock;have hwx:=zaY (f:=zak) (sz:=3) (qak hlt);rw[show zak l[k]= .ag (zfR l[k]) from rfl,w_ag]at hwx;generalize l[k]=x at*;simp only[zfR,qaf,qaD,qaG,qa9]at hwx;have hmo:(x.clock.map onT).length=x.clock.length:=qac _;have hs:=zbK es n q x.name;have hsz:=zfd es x.ty;unfold zfR at hx;have hz:zfh es port x=zfh es port x:=rfl
  conv at hz=>rhs;unfold zfh orE
  generalize zfh es port x=z at hz h1 h2;cases port
  all_goals
   repeat' (first|refine wu ?_|exact wkc|refine wk2 ?_ ?_|refine we hs ?_ ?_|refine wm ?_|refine wv hsz ?_|intro hc)
  all_goals first
   | (refine zac.panic ?_
      refine wk ?_;apply retF
      first|assumption|decide
      ·clear hs hsz;grind
      exact rfl;exact rfl)
   | skip
  all_goals
   have hz2:z=zad (onE es) x.clock:=by clear hs hsz;grind
   clear hz hs hsz;generalize x.clock=cl at*;refine TR.zaz cl.length (fun j=>zad (onE es) (cl.take j)=0) (fun j=>[(0,.ref 0 0),(2,.b _),(10,.t (zaw l)),(11,.i (l.map zak).length),(12,.i k),(47,.t (.sl 3 (cl.map onT))),(48,.i (cl.map onT).length),(49,.i j)]) (fun _=>[zcy es n q]) rfl (fun j hlt2 ha2=>?_) (fun ha2=>?_)
   ·have hx2:=zyK hlt2;have g1:=zaJ (f:=onE es) hlt2 ha2;have g2:=zax (f:=onE es) hlt2 ha2;generalize cl[j]=o at*;have hs:=zbK es n q o.name;have hh:=zfY es o.t o.tag;have hz:onE es o=onE es o:=rfl
    conv at hz=>rhs;unfold onE orE
    generalize onE es o=z3 at hz g1 g2;repeat' (first|refine wu ?_|exact wkc|refine wk2 ?_ ?_|refine we hs ?_ ?_|refine wm ?_|refine wb hh ?_ ?_|intro hc)
    all_goals first
     | exact zac.zaH hlt2 (g2 (by clear hs hh;grind))
     | (refine zac.panic ?_
        refine wk ?_;refine zac.panic ?_;refine wk ?_;apply retF
        first|assumption|decide
        ·clear hs hh;grind
        exact rfl;exact rfl)
   ·have hz3:=zaF ha2;refine wk ?_;refine ya ?_;exact zac.zaH hlt (h2 (by rw[hz2,hz3]))
 ·refine ya ?_;exact retN (zaF ha) rfl rfl
def allF(g:Ex->Bool)(H1:Heap)(_:List Ex)(x:Ex):Out:=if g x=true then .go else .jump .ret H1
theorem zpB(g:Ex->Bool)(H1:Heap):∀(l pre:List Ex),zbo (allF g H1) pre l=if l.all g=true then .go else .jump .ret H1
 | [],pre=>by simp[zbo]
 | x::l,pre=>by
   simp only[zbo,allF,qbH,qar];by_cases h:g x=true
   ·simp only[h,if_true,true_and];exact zpB g H1 l _
   ·simp[h]
theorem ziK(e:Ex)(h:wEx e≤1000000000):Pure Tryz.prog 181 [.t (.ag (exC e))] (.b (sless e)):=by
 have hs:=zdQ e;rw[zan]at hs;have hc0:exC e=[T.n e.kind,T.n e.op,T.n e.t,T.n e.v,.s e.name,.sl 6 (e.args.map exT)]:=rfl;rw[hc0]at hs⊢;unfold sless;refine so Tryz.func181 ?_;repeat' (first|refine wkb ?_|refine wk ?_|exact wkc|refine wk2 ?_ ?_|refine wv hs ?_|intro hc)
 refine TR.zeV e (fun _=>[.cells [.b false]]) (allF (fun x=>zmB x.kind.1) [.cells [.b false]]) rfl h rfl rfl rfl (fun _=>⟨rfl,rfl⟩) (fun pre x=>?_) (fun fn pre x post hw=>?_) (fun fn=>?_)
 ·unfold allF;split <;> rename_i hq <;> split at hq <;> cases hq
  ·trivial
  ·exact⟨rfl,rfl⟩
 ·have hcx:exC x=[T.n x.kind,T.n x.op,T.n x.t,T.n x.v,.s x.name,.sl 6 (x.args.map exT)]:=rfl;rw[hcx];repeat' (first|refine wu ?_|exact wkc|refine wk2 ?_ ?_|intro hc)
  refine⟨rfl,?_⟩;repeat' (first|refine wu ?_|exact wkc|refine wk2 ?_ ?_|intro hc)
  all_goals first
   | (refine⟨_,?_,rfl,rfl⟩
      rw[allF,oH (by clear hs hc0 hcx;simp[zmB];omega)];rfl)
   | (refine⟨?_,rfl,rfl⟩
      rw[allF,oG (by clear hs hc0 hcx;simp[zmB];omega)])
 ·rw[zpB];by_cases h2:((flat e).all fun x=>zmB x.kind.1)=true
  ·rw[oG h2,h2];refine ya ?_;exact wkr
  ·rw[oH h2,Bool.not_eq_true _ |>.mp h2];simp only[];refine ya ?_;exact wkr
theorem ztQ:wEx q.right≤(equT q).w:=by
 have h:=zj5 q.right;rw[zan,w_ag]at h;rw[show equT q= .ag (.sl 1 (q.left.map T.s)::exC q.right) from rfl,w_ag,qaf,qaG]
 have:=zmV (.sl 1 (q.left.map T.s))
 omega
theorem ze9:q.left.length≤(equT q).w:=by
 have h:=zaD T.s 1 q.left;rw[show equT q= .ag (.sl 1 (q.left.map T.s)::exC q.right) from rfl,w_ag,qaf,qaG];omega
def equC(q:Equ):List T:=.sl 1 (q.left.map T.s)::[T.n q.right.kind,T.n q.right.op,T.n q.right.t,T.n q.right.v,.s q.right.name,.sl 6 (q.right.args.map exT)]
theorem zlm{l:List Equ}(h:k<l.length):(l.map equT)[k]?=some (.ag (equC l[k])):=zbc equT h
theorem zjy(es:List En)(n q:Int)(u:Equ)(hw:(equT u).w≤1000000000):LS 120 [.t (.ag (equC u))] es n q (equE es u):=by
 refine Sound.err rfl (fun _=>rfl) ?_;have hx:=zc6 es u.right (qax ztQ hw);have hlb:u.left.length≤1000000000:=qax ze9 hw;have hml:(u.left.map T.s).length=u.left.length:=qac _;have hr:=zfD es n q (zbi es u.right);have hz:equE es u=equE es u:=rfl
 conv at hz=>rhs;unfold equE orE
 rw[zan]at hx;unfold exC at hx;unfold equC;generalize equE es u=z at hz⊢;generalize zbi es u.right=xe at*;refine so Tryz.func120 ?_;repeat' (first|refine wu ?_|exact wkc|refine wk2 ?_ ?_|refine wm ?_|intro hc)
 all_goals first
  | ((repeat' (first|refine zac.panic ?_|refine wk ?_|fail));apply retF;(first|assumption|decide);(clear hr hx;grind);exact rfl;exact rfl)
  | skip
 generalize u.left=l at*;refine TR.zaz l.length (fun k=>zad zcg (l.take k)=0) (fun k=>[(0,.ref 0 0),(3,.cp [.sl 1 (l.map T.s),T.n u.right.kind,T.n u.right.op,T.n u.right.t,T.n u.right.v,.s u.right.name,.sl 6 (u.right.args.map exT)] 0),(19,.t (.sl 1 (l.map T.s))),(20,.i (l.map T.s).length),(21,.i k)]) (fun _=>[zcy es n q]) rfl (fun k hlt ha=>?_) (fun ha=>?_)
 ·have hx:=at_s hlt;have h1:=zaJ (f:=zcg) hlt ha;have h2:=zax (f:=zcg) hlt ha;generalize l[k]=x at*;have hs:=zbK es n q x;repeat' (first|refine wu ?_|exact wkc|refine wk2 ?_ ?_|refine we hs ?_ ?_|intro hc)
  all_goals first
   | exact zac.zaH hlt (h2 hc)
   | ((repeat' (first|refine zac.panic ?_|refine wk ?_|fail));apply retF;(first|assumption|decide);(clear hr hx hs;grind);exact rfl;exact rfl)
 ·have h1:=zaF ha;repeat' (first|refine wu ?_|exact wkc|refine wk2 ?_ ?_|refine wv hx ?_|refine we hr ?_ ?_|refine wm ?_|intro hc)
  all_goals first
   | ((repeat' (first|refine zac.panic ?_|refine wk ?_|fail));apply retF;(first|assumption|decide);(clear hr hx;grind);exact rfl;exact rfl)
   | exact retN (by clear hr hx;grind) rfl rfl
def zmO(t:Tran):List T:=[T.n t.cond.kind,T.n t.cond.op,T.n t.cond.t,T.n t.cond.v,.s t.cond.name,.sl 6 (t.cond.args.map exT),T.n t.to,.b t.resume]
theorem zm9{l:List Tran}(h:k<l.length):(l.map zaA)[k]?=some (.ag (zmO l[k])):=zbc zaA h
theorem zlc{t:Tran}:wEx t.cond≤(zaA t).w:=by
 have h:=zj5 t.cond;rw[zan,w_ag]at h;rw[show zaA t= .ag (zmO t) from rfl,w_ag];simp only[exC,zmO,qaf,qaD,qaG,qa9]at*;omega
theorem zha(es:List En)(n q:Int)(l:List Tran)(states:Int)(strong:Bool)(hw:(T.sl 8 (l.map zaA)).w≤1000000000):LS 153 [.t (.sl 8 (l.map zaA)),.i states,.b strong] es n q (zad (zfi es states strong) l):=by
 refine Sound.err rfl (fun _=>rfl) ?_;have hml:(l.map zaA).length=l.length:=qac _;have hlb:l.length≤1000000000:=qax (qb5 (zaD zaA 8 l)) hw;refine so Tryz.func153 ?_;repeat' (first|refine wu ?_|exact wkc|refine wk2 ?_ ?_|intro hc)
 refine TR.zaz l.length (fun k=>zad (zfi es states strong) (l.take k)=0) (fun k=>[(0,.ref 0 0),(2,.i states),(3,.b strong),(10,.t (.sl 8 (l.map zaA))),(11,.i (l.map zaA).length),(12,.i k)]) (fun _=>[zcy es n q]) rfl (fun k hlt ha=>?_) (fun ha=>?_)
 ·have hx:=zm9 hlt;have h1:=zaJ (f:=zfi es states strong) hlt ha;have h2:=zax (f:=zfi es states strong) hlt ha;have hwx:=zaY (f:=zaA) (sz:=8) (qak hlt);generalize l[k]=x at*;have hwe:wEx x.cond≤1000000000:=by have:=zlc (t:=x);omega
  have hex:=zc6 es x.cond hwe;have hst:=ziK x.cond hwe;rw[zan]at hex;unfold exC at hex hst;unfold zmO at hx;have hr:=zfD es n q (zbi es x.cond);have hz:zfi es states strong x=zfi es states strong x:=rfl
  conv at hz=>rhs;unfold zfi orE
  generalize zfi es states strong x=z at*;generalize zbi es x.cond=xe at*;generalize sless x.cond=sl at*;cases strong
  all_goals
   repeat' (first|refine wu ?_|exact wkc|refine wk2 ?_ ?_|refine wm ?_|refine wv hex ?_|refine we hr ?_ ?_|refine wb hst ?_ ?_|intro hc)
  all_goals first
   | exact zac.zaH hlt (h2 (by clear hex hst hr;grind))
   | ((repeat' (first|refine zac.panic ?_|refine wk ?_|fail));apply retF;(first|assumption|decide);(clear hex hst hr hx;grind);exact rfl;exact rfl)
 ·refine ya ?_;exact retN (zaF ha) rfl rfl
def zd5(a:Auto):List T:=[.sl 6 (a.states.map staT)]
theorem znb(a:Auto):zam a= .ag (zd5 a):=zd6 a
def staC(s:Sta):List T:=[.s s.name,zaw s.locals,.sl 7 (s.eqs.map equT),.sl 1 (s.autos.map zam),.sl 8 (s.unl.map zaA),.sl 8 (s.unt.map zaA)]
theorem zmC(s:Sta):staT s= .ag (staC s):=zdf s
theorem zov{l:List Sta}(h:k<l.length):(l.map staT)[k]?=some (.ag (staC l[k])):=by rw[<-zmC];exact zbc staT h
theorem zhP{l:List Auto}(h:k<l.length):(l.map zam)[k]?=some (.ag (zd5 l[k])):=by rw[<-znb];exact zbc zam h
theorem zmW(s:Sta):(zaw s.locals).w+(T.sl 7 (s.eqs.map equT)).w+(T.sl 1 (s.autos.map zam)).w+(T.sl 8 (s.unl.map zaA)).w+(T.sl 8 (s.unt.map zaA)).w≤(staT s).w:=by
 rw[zmC,w_ag];simp only[staC,qaf,qaD,qaG,qa9];omega
theorem zhc(a:Auto):(T.sl 6 (a.states.map staT)).w≤(zam a).w:=by
 rw[znb,w_ag];simp only[zd5,qaf,qaD,qaG,qa9];omega
theorem zgW(es:List En)(n q:Int):∀(k:Nat) (d:Int),k≤3->d+k=3->∀(a:Auto),(zam a).w≤1000000000->LS 121 [.t (.ag (zd5 a)),.i d] es n q (zdl es k a)
 | 0,d,_,hd,a,_=>by
   refine Sound.err rfl (fun _=>rfl) ?_;unfold zdl zd5;refine so Tryz.func121 ?_;repeat' (first|refine wu ?_|exact wkc|refine wk2 ?_ ?_|refine wm ?_|intro hc)
   ·apply retF
    ·decide
    ·rfl
    ·exact rfl
    ·exact rfl
 | k+1,d,hk3,hd,a,hw=>by
   have ih:∀x,(zam x).w≤1000000000->LS 121 [.t (.ag (zd5 x)),.i (d+1)] es n q (zdl es k x):=fun x hx=>zgW es n q k (d+1) oA oA x hx
   refine Sound.err rfl (fun _=>rfl) ?_;have hwa:=zhc a;have hlb:a.states.length≤1000000000:=by have:=zaD staT 6 a.states;omega
   have hml:(a.states.map staT).length=a.states.length:=qac _;have hz:zdl es (k+1) a=zdl es (k+1) a:=rfl
   conv at hz=>rhs;unfold zdl orE
   generalize zdl es (k+1) a=z at hz⊢;generalize zdl es k=F at*;unfold zd5;generalize a.states=l at*;refine so Tryz.func121 ?_;repeat' (first|refine wu ?_|exact wkc|refine wk2 ?_ ?_|refine wm ?_|intro hc)
   all_goals first
    | ((repeat' (first|refine zac.panic ?_|refine wk ?_|fail));apply retF;(first|assumption|decide);(clear ih;grind);exact rfl;exact rfl)
    | (exfalso;omega)
    | skip
   have hz2:z=zad (stE es F (l.length:Int)) l:=by clear ih;grind
   clear hz;refine TR.zaz l.length (fun k=>zad (stE es F (l.length:Int)) (l.take k)=0) (fun k=>[(0,.ref 0 0),(2,.i d),(4,.cp [.sl 6 (l.map staT)] 0),(29,.t (.sl 6 (l.map staT))),(30,.i (l.map staT).length),(31,.i k)]) (fun _=>[zcy es n q]) rfl (fun j hlt ha=>?_) (fun ha=>?_)
   ·have hx:=zov hlt;have h1:=zaJ (f:=stE es F (l.length:Int)) hlt ha;have h2:=zax (f:=stE es F (l.length:Int)) hlt ha;have hwx:=zaY (f:=staT) (sz:=6) (qak hlt);generalize l[j]=x at*;have hws:=zmW x;have hl1:=zaD equT 7 x.eqs;have hl2:=zaD zam 1 x.autos;have m1:(x.locals.map zak).length=x.locals.length:=qac _;have m2:(x.eqs.map equT).length=x.eqs.length:=qac _;have m3:(x.autos.map zam).length=x.autos.length:=qac _;have m4:(x.unl.map zaA).length=x.unl.length:=qac _;have m5:(x.unt.map zaA).length=x.unt.length:=qac _;have hi:=zbK es n q x.name;have hd1:=zdq es n q x.locals false oA;have ht1:=zha es n q x.unl (l.length:Int) true oA;have ht2:=zha es n q x.unt (l.length:Int) false oA;rw[<-hml]at ht1 ht2;have hz:stE es F (l.length:Int) x=stE es F (l.length:Int) x:=rfl
    conv at hz=>rhs;unfold stE orE
    have heq:∀u,u∈x.eqs->LS 120 [.t (.ag (equC u))] es n q (equE es u):=fun u hu=>zjy es n q u (by have:=zaY (f:=equT) (sz:=7) hu;omega)
    have hau:∀u,u∈x.autos->LS 121 [.t (.ag (zd5 u)),.i (d+1)] es n q (F u):=fun u hu=>ih u (by have:=zaY (f:=zam) (sz:=1) hu;omega)
    clear ih;generalize stE es F (l.length:Int) x=zs at hz h1 h2;rw[<-hml]at hz;unfold staC at hx;repeat' (first|refine wu ?_|exact wkc|refine wk2 ?_ ?_|refine wm ?_|refine we hi ?_ ?_|refine we hd1 ?_ ?_|intro hc)
    all_goals first
     | ((repeat' (first|refine zac.panic ?_|refine wk ?_|fail));apply retF;(first|assumption|decide);(clear hi hd1 ht1 ht2 heq hau hx;grind);exact rfl;exact rfl)
     | skip
    refine TR.zaz x.eqs.length (fun i=>zad (equE es) (x.eqs.take i)=0) (fun i=>[(0,.ref 0 0),(2,.i d),(4,.cp [.sl 6 (l.map staT)] 0),(29,.t (.sl 6 (l.map staT))),(30,.i (l.map staT).length),(31,.i j),(7,.cp [.s x.name,zaw x.locals,.sl 7 (x.eqs.map equT),.sl 1 (x.autos.map zam),.sl 8 (x.unl.map zaA),.sl 8 (x.unt.map zaA)] 0),(72,.t (.sl 7 (x.eqs.map equT))),(73,.i (x.eqs.map equT).length),(74,.i i)]) (fun _=>[zcy es n q]) rfl (fun i hlt2 ha2=>?_) (fun ha2=>?_)
    ·have hx2:=zlm hlt2;have g1:=zaJ (f:=equE es) hlt2 ha2;have g2:=zax (f:=equE es) hlt2 ha2;have hs:=heq _ (qak hlt2);generalize x.eqs[i]=u at*;unfold equC at hx2 hs;repeat' (first|refine wu ?_|exact wkc|refine wk2 ?_ ?_|refine we hs ?_ ?_|intro hc)
     all_goals exact zwq
    have he2:=zaF ha2;refine wk ?_;repeat' (first|refine wu ?_|exact wkc|refine wk2 ?_ ?_|intro hc)
    refine TR.zaz x.autos.length (fun i=>zad F (x.autos.take i)=0) (fun i=>[(0,.ref 0 0),(2,.i d),(4,.cp [.sl 6 (l.map staT)] 0),(29,.t (.sl 6 (l.map staT))),(30,.i (l.map staT).length),(31,.i j),(7,.cp [.s x.name,zaw x.locals,.sl 7 (x.eqs.map equT),.sl 1 (x.autos.map zam),.sl 8 (x.unl.map zaA),.sl 8 (x.unt.map zaA)] 0),(83,.t (.sl 1 (x.autos.map zam))),(84,.i (x.autos.map zam).length),(85,.i i)]) (fun _=>[zcy es n q]) rfl (fun i hlt2 ha2=>?_) (fun ha2=>?_)
    ·have hx2:=zhP hlt2;have g1:=zaJ (f:=F) hlt2 ha2;have g2:=zax (f:=F) hlt2 ha2;have hs:=hau _ (qak hlt2);generalize x.autos[i]=u at*;unfold zd5 at hx2 hs;repeat' (first|refine wu ?_|exact wkc|refine wk2 ?_ ?_|refine we hs ?_ ?_|intro hc)
     all_goals exact zwq
    have he3:=zaF ha2;refine wk ?_;repeat' (first|refine wu ?_|exact wkc|refine wk2 ?_ ?_|refine we ht1 ?_ ?_|refine we ht2 ?_ ?_|intro hc)
    all_goals first
     | exact zac.zaH hlt (h2 (by clear hi hd1 ht1 ht2 heq hau hx;grind))
     | ((repeat' (first|refine zac.panic ?_|refine wk ?_|fail));apply retF;(first|assumption|decide);(clear hi hd1 ht1 ht2 heq hau hx;grind);exact rfl;exact rfl)
   ·refine ya ?_;exact retN (by rw[hz2,zaF ha]) rfl rfl
theorem zna(es:List En)(n q:Int)(a:Auto)(hw:(zam a).w≤1000000000):LS 121 [.t (.ag (zd5 a)),.i 0] es n q (zdl es 3 a):=zgW es n q 3 0 (qag _) rfl a hw
theorem wka{G Q:Prop}(k:Q)(h:Hold Q->G:=by
  (intro k;apply TO.zw8 zaf;(iterate 9 exact rfl);exact leB;exact k.p)):G:=h ⟨k⟩
theorem retQ{v:SV}{n q q' c':Int}(h0:c'≠0)(hc:c'=c)(hq:q'=q)(hN:Nat.ble 1 H.length=true)(hb:zaa H.length H=true):
  RetK tab rs 1 (Err0 c v (zi5 n q c) H1 1) (.panic (zi5 n q' c')) env H:=by
 subst hc hq;exact RetK.errP h0 hN rfl hb
theorem zlK{f:α->Int}{l:List α}(hk:k<l.length)(h:zad f (l.take k)=0)(hn:f l[k]≠0):zdr f l=((k:Int),f l[k]):=by
 conv=>lhs;rw[<-qaX k l]
 rw[zfW,oG h,qaN hk,zad,oH hn,oH hn,zdr,oH hn];simp;omega
theorem zq5(n:Nod):(zaw n.ins).w+(zaw n.outs).w+(zaw n.locals).w+(T.sl 7 (n.eqs.map equT)).w+(T.sl 1 (n.autos.map zam)).w+(T.sl 6 (n.assume.map exT)).w+(T.sl 6 (n.ensure.map exT)).w≤(nodT n).w:=by
 rw[show nodT n= .ag (nodC n) from rfl,w_ag];simp only[nodC,qaf,qaD,qaG,qa9];omega
theorem znP (es:List En) (a b i:Int) (n:Nod) (hw:(nodT n).w≤1000000000):
  Sound Tryz.prog 71 [.ref 0 0,.i i,.t (.ag (nodC n))] [zcy es a b] (Err (zcp es n).2 (.tup []) (zi5 i (zcp es n).1 (zcp es n).2) [zcy es i (-1)]):=by
 refine Sound.err rfl (fun _=>rfl) ?_;have hwn:=zq5 n;have l1:=zaD equT 7 n.eqs;have l2:=zaD zam 1 n.autos;have l3:=zaD exT 6 n.assume;have l4:=zaD exT 6 n.ensure;have m1:(n.ins.map zak).length=n.ins.length:=qac _;have m2:(n.outs.map zak).length=n.outs.length:=qac _;have m3:(n.locals.map zak).length=n.locals.length:=qac _;have m4:(n.eqs.map equT).length=n.eqs.length:=qac _;have m5:(n.autos.map zam).length=n.autos.length:=qac _;have m6:(n.assume.map exT).length=n.assume.length:=qac _;have m7:(n.ensure.map exT).length=n.ensure.length:=qac _;have hi:=zbK es i (-1) n.name;have hd1:=zdq es i (-1) n.ins true oA;have hd2:=zdq es i (-1) n.outs true oA;have hd3:=zdq es i (-1) n.locals false oA;have heq:∀(q:Int) u,u∈n.eqs->LS 120 [.t (.ag (equC u))] es i q (equE es u):=fun q u hu=>zjy es i q u (by have:=zaY (f:=equT) (sz:=7) hu;omega)
 have hau:∀u,u∈n.autos->LS 121 [.t (.ag (zd5 u)),.i 0] es i (-1) (zdl es 3 u):=fun u hu=>zna es i (-1) u (by have:=zaY (f:=zam) (sz:=1) hu;omega)
 have hex:∀u,u∈n.assume\/u∈n.ensure->wEx u≤1000000000:=fun u hu=>by
  have:=zj5 u
  rcases hu with hu|hu
  ·have:=zaY (f:=exT) (sz:=6) hu;omega
  ·have:=zaY (f:=exT) (sz:=6) hu;omega
 have hz:zcp es n=zcp es n:=rfl
 conv at hz=>rhs;unfold zcp zlV zod orE
 generalize zcp es n=z at hz⊢;unfold nodC;clear hwn hw;refine so Tryz.func71 ?_;repeat' (first|refine wu ?_|exact wkc|refine wk2 ?_ ?_|refine wm ?_|refine we hi ?_ ?_|refine we hd1 ?_ ?_|refine we hd2 ?_ ?_|refine we hd3 ?_ ?_|intro hc)
 all_goals first
  | ((repeat' (first|refine zac.panic ?_|refine wk ?_|fail));apply retQ;(first|assumption|decide);(clear hi hd1 hd2 hd3 heq hau hex;grind);(clear hi hd1 hd2 hd3 heq hau hex;grind);exact rfl;exact rfl)
  | skip
 refine TR.zaz n.eqs.length (fun k=>zad (equE es) (n.eqs.take k)=0) (fun k=>[(0,.ref 0 0),(5,.cp (nC n) 0),(80,.t (.sl 7 (n.eqs.map equT))),(81,.i (n.eqs.map equT).length),(82,.i k)]) (fun k=>[zcy es i ((k:Int)-1)]) rfl (fun k hlt ha=>?_) (fun ha=>?_)
 ·have hx:=zlm hlt;have g1:=zaJ (f:=(equE es)) hlt ha;have g2:=zax (f:=(equE es)) hlt ha;have hs:=heq k _ (qak hlt);have g3:=zlK (f:=equE es) hlt ha;generalize n.eqs[k]=u at*;unfold equC at hx hs;repeat' (first|refine wkt ?_|refine wka ?_|refine wk ?_|exact wkc|refine wk2 ?_ ?_|refine we hs ?_ ?_|intro hc)
  all_goals first
   | (refine zac.zaH hlt (g2 hc) ?_ (by rw[show((k+1:Nat):Int)-1=k from oA]);repeat' (first|exact trivial|refine qav rfl ?_|fail))
   | ((repeat' (first|refine zac.panic ?_|refine wk ?_|fail));apply retQ;(first|assumption|decide);(clear hs hi hd1 hd2 hd3 heq hau hex hx;grind);(clear hs hi hd1 hd2 hd3 heq hau hex hx;grind);exact rfl;exact rfl)
 have e1:=zaF ha;clear hi hd1 hd2 hd3 heq;refine wk ?_;repeat' (first|refine wu ?_|exact wkc|refine wk2 ?_ ?_|intro hc)
 refine TR.zaz n.autos.length (fun k=>zad (zdl es 3) (n.autos.take k)=0) (fun k=>[(0,.ref 0 0),(5,.cp (nC n) 0),(101,.t (.sl 1 (n.autos.map zam))),(102,.i (n.autos.map zam).length),(103,.i k)]) (fun k=>[zcy es i (-1)]) rfl (fun k hlt ha=>?_) (fun ha=>?_)
 ·have hx:=zhP hlt;have g1:=zaJ (f:=(zdl es 3)) hlt ha;have g2:=zax (f:=(zdl es 3)) hlt ha;have hs:=hau _ (qak hlt);generalize n.autos[k]=u at*;unfold zd5 at hx hs;repeat' (first|refine wu ?_|exact wkc|refine wk2 ?_ ?_|refine we hs ?_ ?_|intro hc)
  all_goals first
   | exact zac.zaH hlt (g2 hc)
   | ((repeat' (first|refine zac.panic ?_|refine wk ?_|fail));apply retQ;(first|assumption|decide);(clear hs hau hex hx;grind);(clear hs hau hex hx;grind);exact rfl;exact rfl)
 have e2:=zaF ha;clear hau;refine wk ?_;repeat' (first|refine wu ?_|exact wkc|refine wk2 ?_ ?_|intro hc)
 refine TR.zaz n.assume.length (fun k=>zad (zbi es) (n.assume.take k)=0) (fun k=>[(0,.ref 0 0),(5,.cp (nC n) 0),(112,.t (.sl 6 (n.assume.map exT))),(113,.i (n.assume.map exT).length),(114,.i k)]) (fun k=>[zcy es i (-1)]) rfl (fun k hlt ha=>?_) (fun ha=>?_)
 ·have hx:=zeA hlt;have g1:=zaJ (f:=(zbi es)) hlt ha;have g2:=zax (f:=(zbi es)) hlt ha;have hs:=zc6 es _ (hex _ (.inl (qak hlt)));rw[zan]at hs;generalize n.assume[k]=u at*;exact zwf
 have e3:=zaF ha;refine wk ?_;repeat' (first|refine wu ?_|exact wkc|refine wk2 ?_ ?_|intro hc)
 refine TR.zaz n.ensure.length (fun k=>zad (zbi es) (n.ensure.take k)=0) (fun k=>[(0,.ref 0 0),(5,.cp (nC n) 0),(128,.t (.sl 6 (n.ensure.map exT))),(129,.i (n.ensure.map exT).length),(130,.i k)]) (fun k=>[zcy es i (-1)]) rfl (fun k hlt ha=>?_) (fun ha=>?_)
 ·have hx:=zeA hlt;have g1:=zaJ (f:=(zbi es)) hlt ha;have g2:=zax (f:=(zbi es)) hlt ha;have hs:=zc6 es _ (hex _ (.inr (qak hlt)));rw[zan]at hs;generalize n.ensure[k]=u at*;exact zwf
 have e4:=zaF ha;refine wk ?_;refine ya ?_;refine RetK.errN (vs:=[]) ?_ rfl (Le.refl _) rfl rfl rfl rfl rfl;clear hex;grind
theorem zjs(n q c:Int)(a b d:SV)(Hr:Heap)(hb:zaa (Hr.length+2) Hr=true):
  zcT Tryz.prog 68 [.ref 0 0,.ref 1 0] (.cells [a,b]:: .cells [d]::Hr) (some (zi5 n q c)) (fun H3=>H3= .cells [.i n,.i q]:: .cells [.i c]::Hr):=by
 refine zcT.of (tab:=tab) Tryz.func68 oD rfl rfl rfl rfl ?_;repeat' (first|refine wu ?_|exact wkc|refine wk2 ?_ ?_|(apply TO.zll zaf;(iterate 4 exact rfl))|intro hc)
 refine Then.normal ?_;repeat' (first|refine wkt ?_|fail)
 refine TR.zkM (envF:=?envF) (HF:=.cells [.i n,.i q]:: .cells [.i c]::Hr) [(.cp [T.i n,T.i q,T.i c] 0,false),(.t (.ag [T.i n,T.i q]),false),(.cp [T.i n,T.i q,T.i c] 2,false),(.i c,false),(.any,true),(.any,true)] [.cells [a,b]:: .cells [d]::Hr,.cells [.i n,.i q]:: .cells [d]::Hr,.cells [.i n,.i q]:: .cells [.i c]::Hr] hmix ?hB ?h0 ?hp ?hF ?hE ?hK
 case hB=>(dsimp only[List.map];decide +kernel)
 case h0=>exact rfl
 case hF=>exact rfl
 case hE=>exact rfl
 case hp=>repeat' (first|refine wu ?_|exact trivial|exact qav rfl rfl|refine qav (fun H env=>?_) ?_|refine qav (fun env=>?_) ?_|fail)
 refine ya ?_;have ht:(Blk.cells [.i n,.i q]::Blk.cells [.i c]::Hr).take (Blk.cells [a,b]::Blk.cells [d]::Hr).length=Blk.cells [.i n,.i q]::Blk.cells [.i c]::Hr:=oC
 refine⟨qag _,?_,ht⟩;show zaa _ (List.take _ (Blk.cells [.i n,.i q]::Blk.cells [.i c]::Hr))=true;rw[ht];exact hb
theorem zp9(H:Heap)(hb:zaa H.length H=true):
  zcT Tryz.prog 68 [.ref 0 0,.ref 1 0] H none (fun H3=>H3=H):=by
 refine zcT.of (tab:=tab) Tryz.func68 oD rfl rfl rfl rfl ?_;repeat' (first|refine wu ?_|exact wkc|refine wk2 ?_ ?_|(apply TO.zjl zaf;(iterate 4 exact rfl))|intro hc)
 refine Then.normal ?_;refine ya ?_;exact⟨qag _,by rw[qaJ (qag _)];exact hb,qaJ (qag _)⟩
theorem we3{G Q1 Q2:Prop}{v:SV}(hs:Sound Tryz.prog f cargs Hc (Err c v pv H1))(k1:Q1)(k2:Q2)(h:Sound Tryz.prog f cargs Hc (Err c v pv H1)->Hold Q1->Hold Q2->G:=by
  intro hs k1 k2
  (apply TO.zlx [2] hs;(iterate 3 exact rfl);exact zqa;exact rfl;exact Hands.one rfl rfl;(iterate 4 exact rfl);exact k1.p;exact k2.p)):G:=h hs ⟨k1⟩ ⟨k2⟩
structure zvs (p:Prog) (w:Nat):Prop where
 es:p.enums.length≤w
 tg:∀u∈p.enums,u.tags.length≤w
 ns:p.nodes.length≤w
 nd:∀n∈p.nodes,(nodT n).w≤w
theorem zsS{p:Prog}{w:Nat}(hw:(T.ag (zbr p)).w≤w):zvs p w:=by
 have l1:(T.sl 2 (p.enums.map enT)).w+(zb0 p.nodes).w≤(T.ag (zbr p)).w:=by rw[w_ag];simp only[zbr,qaf,qaD,qaG,qa9];omega
 have b1:=zaD enT 2 p.enums;have b2:=zaD nodT 8 p.nodes;have h8:(zb0 p.nodes).w=(T.sl 8 (p.nodes.map nodT)).w:=rfl;refine⟨oA,fun u hu=>?_,oA,fun n hn=>?_⟩
 ·have:=zaY (f:=enT) (sz:=2) hu
  rw[enT,w_ag]at this;simp only[qaf,qaD,qaG,qa9]at this
  have:=zaD T.s 1 u.tags
  omega
 ·have:=zaY (f:=nodT) (sz:=8) hn
  omega
theorem zmx(p:Prog)(hw:zvs p 1000000000):Pure Tryz.prog 29 [.t (.ag (zbr p))] (.tup [.t (.ag [T.i (zaX p).1.1,T.i (zaX p).1.2]),.i (zaX p).2]):=by
 refine Sound.znR zaf Tryz.func29 oD rfl rfl (gf:=68) (cv:=[.ref 0 0,.ref 1 0]) ?_;unfold zbr;refine TD.seq ?_;repeat' (first|refine wu ?_|fail)
 show TD _ _ (.seq _ _) _ _ _ _ _ _;refine TD.defer (tz:=0) rfl rfl ?_;have m1:(p.enums.map enT).length=p.enums.length:=qac _;have m2:(p.nodes.map nodT).length=p.nodes.length:=qac _;have b1:=hw.es;have b2:=hw.ns;have hen:∀(n q:Int) u,u∈p.enums->LS 70 [.t (.ag [.s u.name,.sl 1 (u.tags.map T.s)])] p.enums n q (zew u):=fun n q u hu=>znt p.enums n q u (hw.tg u hu)
 have hno:∀(a b i:Int) u,u∈p.nodes->Sound Tryz.prog 71 [.ref 0 0,.i i,.t (.ag (nodC u))] [zcy p.enums a b] (Err (zcp p.enums u).2 (.tup []) (zi5 i (zcp p.enums u).1 (zcp p.enums u).2) [zcy p.enums i (-1)]):=fun a b i u hu=>znP p.enums a b i u (hw.nd u hu)
 have hz:zaX p=zaX p:=rfl
 conv at hz=>rhs;unfold zaX limE
 generalize zaX p=z at hz⊢;refine wk ?_;repeat' (first|refine wkt ?_|refine wka ?_|refine wk ?_|exact wkc|refine wk2 ?_ ?_|(apply TO.zcm [2] (zsA p.enums (-1) (-1) 3);(iterate 3 exact rfl);exact⟨Le.refl _,Le.refl _,Le.refl _,trivial⟩;exact rfl;exact Hands.one rfl rfl;exact rfl;exact rfl)|refine we3 (zsz p.enums (-1) (-1) 3 oB) ?_ ?_|intro hc)
 all_goals first
  | (have hzz:z=((-1,-1),3):=by rw[hz];clear hen hno;grind
     subst hzz;exact⟨_,zjs _ _ _ _ _ _ _ rfl,fun H3 h=>by subst h;exact wkr⟩)
  | skip
 rw[oH (by clear hen hno hz;simp;omega)]at hz
 refine TR.zaz p.enums.length (fun k=>zad zew (p.enums.take k)=0) (fun k=>[(1,.cp [.sl 2 (p.enums.map enT),zb0 p.nodes] 0),(2,.ref 0 0),(3,.ref 1 0),(4,.ref 2 0),(28,.t (.sl 2 (p.enums.map enT))),(29,.i (p.enums.map enT).length),(30,.i k)])
  (fun k=>[.cells [.i 0,.i 0],.cells [.i 0],zcy p.enums (-1) (-1)]) rfl (fun k hlt ha=>?_) (fun ha=>?_)
 ·have hx:(p.enums.map enT)[k]?=some (.ag [.s p.enums[k].name,.sl 1 (p.enums[k].tags.map T.s)]):=zbc enT hlt;have g1:=zaJ (f:=zew) hlt ha;have g2:=zax (f:=zew) hlt ha;have hs:=hen (-1) (-1) _ (qak hlt);generalize p.enums[k]=u at*;clear hen hno;repeat' (first|refine wkt ?_|refine wka ?_|refine wk ?_|exact wkc|refine wk2 ?_ ?_|refine we3 hs ?_ ?_|intro hc)
  ·exact zac.zaH hlt (g2 hc)
  ·rw[oG (by rw[g1 hc];exact hc),g1 hc]at hz;exact zwcp
 have e1:=zaF ha;rw[oH (by simp[e1])]at hz;clear hen;refine wk ?_;repeat' (first|refine wu ?_|exact wkc|refine wk2 ?_ ?_|intro hc)
 refine TR.zaz p.nodes.length (fun k=>zad (fun n=>(zcp p.enums n).2) (p.nodes.take k)=0) (fun k=>[(2,.ref 0 0),(3,.ref 1 0),(4,.ref 2 0),(39,.t (zb0 p.nodes)),(40,.i (p.nodes.map nodT).length),(41,.i k)])
  (fun k=>[.cells [.i 0,.i 0],.cells [.i 0],zcy p.enums ((k:Int)-1) (-1)]) rfl (fun k hlt ha=>?_) (fun ha=>?_)
 ·have hx:=zou hlt;have g1:=zaJ (f:=fun n=>(zcp p.enums n).2) hlt ha;have g2:=zax (f:=fun n=>(zcp p.enums n).2) hlt ha;have g3:=zlK (f:=fun n=>(zcp p.enums n).2) hlt ha;have hs:=hno ((k:Int)-1) (-1) k _ (qak hlt);have hat:p.nodes[k]?=some p.nodes[k]:=qad hlt;generalize p.nodes[k]=u at*;clear hno;unfold nodC at hx hs;repeat' (first|refine wkt ?_|refine wka ?_|refine wk ?_|exact wkc|refine wk2 ?_ ?_|refine we3 hs ?_ ?_|intro hc)
  ·refine zac.zaH hlt (g2 hc) ?_ (by rw[show((k+1:Nat):Int)-1=k from oA];rfl);repeat' (first|exact trivial|refine qav rfl ?_|fail)
  ·rw[oH (by rw[g1 hc];exact hc),g3 hc,g1 hc]at hz;simp only[qcE,hat,qaT,qbm]at hz;exact zwcp
 have e2:=zaF ha;rw[oG e2]at hz;subst hz;refine wk ?_;refine ya ?_;exact⟨_,zp9 _ rfl,fun H3 h=>by subst h;exact wkr⟩
theorem zeX(p:Prog)(hw:(T.ag (zbr p)).w≤1000000000):Pure Tryz.prog 29 [.t (.ag (zbr p))] (.tup [.t (.ag [T.i (zaX p).1.1,T.i (zaX p).1.2]),.i (zaX p).2]):=zmx p (zsS hw)
end Go.Proofs.YtdicfgideclbdaaGreatDoor
