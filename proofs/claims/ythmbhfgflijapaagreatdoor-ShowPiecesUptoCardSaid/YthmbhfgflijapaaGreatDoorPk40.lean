import Derived.Test.YthmbhfgflijapaaGreatDoorRows
import Derived.Test.YthmbhfgflijapaaGreatDoorPk39
set_option linter.all false
namespace Go.Proofs.YthmbhfgflijapaaGreatDoor
open Go Go.TL
attribute [local irreducible] TR TO Then zag RetK Sound zab Kf GG zaK
set_option maxHeartbeats 4000000 in
theorem zk8 (p:Prog) (hw:(T.ag (za8 p)).w≤2200000):Pure Tryz.prog 6 [.t (.ag (za8 p))] (.tup [.s (zhV p).1,.b (ziV p)]):=by
 have s1:=zla p (qaq hw (by decide))
 have s2:=zeU p (qaq hw (by decide)) (zuX hw)
 unfold ziV
 generalize zhV p=z at*
 obtain⟨tx,c⟩:=z
 generalize zdE p=y at*
 obtain⟨⟨a1,a2⟩,y⟩:=y
 dsimp only at s1 s2⊢
 unfold za8 at*
 by_cases h1:y=0
 ·by_cases h2:c=0
  ·subst h1 h2
   rw[decide_eq_true (rfl:(0:Int)=0),qcj,qcj]
   by_cases h3:tx.length≤65536
   ·rw[decide_eq_true h3]
    exact zwbt
   ·rw[decide_eq_false h3]
    exact zwbt
  ·subst h1
   rw[decide_eq_false h2,Bool.and_false,qcr]
   exact zwbt
 ·rw[decide_eq_false h1,qcr,qcr]
  exact zwbt
theorem zve{es:List En}(hw:(ensT es).w≤2200000):EsOk es:=by
 have h0:(ensT es).w=(T.sl 2 (es.map enT)).w:=rfl
 have h1:=zaB enT 2 es
 refine⟨by omega,fun u hu=>?_⟩
 exact zwbh
set_option maxHeartbeats 8000000 in
theorem zhM:∀(w:Nat) (e:Ex),wEx e≤w->w≤1000000000->Pure Tryz.prog 9 [.t (exT e),.t (exT e)] (.b true)
 | 0,e,h,_=>by have:=zb7 e;omega
 | w+1,e,h,hw=>by
   have ih:=zhM w
   have ha:=znN e
   have hml:(e.args.map exT).length=e.args.length:=qab _
   have hi:∀x∈e.args,Pure Tryz.prog 9 [.t (exT x),.t (exT x)] (.b true):=fun x hx=>ih x (by have:=zcg hx;omega) (by omega)
   clear ih
   rw[zae]
   unfold exC
   generalize e.kind=k1 at*
   generalize e.op=k2 at*
   generalize e.t=k3 at*
   generalize e.v=k4 at*
   generalize e.name=k5 at*
   generalize e.args=l at*
   refine so Tryz.func9 ?_
   repeat' (first|refine wkt ?_|exact wkc|(intro hc;exact absurd rfl hc)|intro hc|refine wk2 ?_ ?_|(apply TO.want;exact rfl)|fail)
   refine TR.zaA l.length (fun _=>True) (fun k=>[(2,.cp [T.n k1,T.n k2,T.n k3,T.n k4,T.s k5,T.sl 6 (l.map exT)] 0),(3,.cp [T.n k1,T.n k2,T.n k3,T.n k4,T.s k5,T.sl 6 (l.map exT)] 0),(5,.i k)]) (fun _=>[]) trivial (fun k hlt _=>?_) (fun _=>?_)
   ·have hx:=zd3 hlt
    have hd:=hi _ (qaf hlt)
    rw[zae]at hd
    generalize l[k]=x at*
    unfold exC at hx hd
    repeat' (first|refine wkt ?_|exact wkc|intro hc|refine wk2 ?_ ?_|fail)
    refine rgS [.cp [T.n k1,T.n k2,T.n k3,T.n k4,T.s k5,T.sl 6 (l.map exT)] 5,.t (.sl 6 (l.map exT)),.i k,.cp [T.n x.kind,T.n x.op,T.n x.t,T.n x.v,T.s x.name,T.sl 6 (x.args.map exT)] 0,.t (.ag [T.n x.kind,T.n x.op,T.n x.t,T.n x.v,T.s x.name,T.sl 6 (x.args.map exT)]),.cp [T.n k1,T.n k2,T.n k3,T.n k4,T.s k5,T.sl 6 (l.map exT)] 5,.t (.sl 6 (l.map exT)),.i k,.cp [T.n x.kind,T.n x.op,T.n x.t,T.n x.v,T.s x.name,T.sl 6 (x.args.map exT)] 0,.t (.ag [T.n x.kind,T.n x.op,T.n x.t,T.n x.v,T.s x.name,T.sl 6 (x.args.map exT)]),.b true,.b false] ?_ ?_
    ·repeat' (first|refine wkt ?_|refine wv hd ?_|exact trivial|exact⟨⟨rfl,rfl⟩,trivial⟩|refine qai (fun env=>?_) ?_|refine wk ?_|exact wkc|intro hc|refine wk2 ?_ ?_|fail)
     done
    ·repeat' (first|refine wu ?_|exact wkc|intro hc|refine wk2 ?_ ?_|fail)
     exact zab.zaI hlt trivial
   ·repeat' (first|refine wu ?_|exact wkc|intro hc|refine wk2 ?_ ?_|fail)
    exact wkr
set_option maxHeartbeats 8000000 in
theorem zir (p:Prog) (hw:(T.ag (za8 p)).w≤2200000):Pure Tryz.prog 3 [.t (.ag (za8 p))] (.b true):=by
 have ha:=zuZ
 have hh:=zkA p (qaq hw (by decide))
 have hr:=zk8 p hw
 have hew:=qaq (ztS p) hw
 have hE:=zrF hew
 have hO:=zve hew
 have hm1:(p.nodes.map nodT).length=p.nodes.length:=qab _
 have hn0:=zaB nodT 8 p.nodes
 have hn1:(T.sl 8 (p.nodes.map nodT)).w≤2200000:=qaq (by have h5:(zbB p.nodes).w=(T.sl 8 (p.nodes.map nodT)).w:=rfl;rw[w_ag];simp only[za8,qah,qaC,qay,qaQ];omega) hw
 have hP:=fun(h:ziV p=true) (n:Nod) (hn:n∈p.nodes) (u:Equ) (hu:u∈n.eqs)=>pieces h hn hu
 have hW:=fun(n:Nod) (hn:n∈p.nodes) (u:Equ) (hu:u∈n.eqs)=>qaq (zus hn hu) hw
 have hN:=fun(n:Nod) (hn:n∈p.nodes)=>zaN (f:=nodT) (sz:=8) hn
 generalize (zhV p).1=tx at*
 have hpc:za8 p=[.sl 2 (p.enums.map enT),.sl 8 (p.nodes.map nodT)]:=rfl
 rw[hpc]at*
 cases hv:zpH p with
 | true=>
   rw[hv]at hh
   refine so Tryz.func3 ?_
   repeat' (first|refine wu ?_|exact wkc|intro hc|refine wk2 ?_ ?_|refine wv hh ?_|refine wv ha ?_|fail)
   exact wkr
 | false=>
 rw[hv]at hh
 cases hb:ziV p with
 | false=>
   rw[hb]at hr
   refine so Tryz.func3 ?_
   repeat' (first|refine wu ?_|exact wkc|intro hc|refine wk2 ?_ ?_|refine wv hh ?_|refine wv hr ?_|fail)
   refine TR.zaA 0 (fun _=>True) (fun _=>[(1,.cp [.sl 2 (p.enums.map enT),.sl 8 (p.nodes.map nodT)] 0),(4,.b false),(5,.i 0)]) (fun _=>[]) trivial (fun k hlt _=>absurd hlt (by omega)) (fun _=>?_)
   repeat' (first|refine wu ?_|exact wkc|intro hc|refine wk2 ?_ ?_|refine wv ha ?_|fail)
   all_goals exact wkr
 | true=>
 rw[hb]at hr
 replace hP:=hP hb
 refine so Tryz.func3 ?_
 repeat' (first|refine wu ?_|exact wkc|intro hc|refine wk2 ?_ ?_|refine wv hh ?_|refine wv hr ?_|fail)
 refine TR.zaA p.nodes.length (fun _=>True) (fun k=>[(1,.cp [.sl 2 (p.enums.map enT),.sl 8 (p.nodes.map nodT)] 0),(4,.b true),(5,.i k)]) (fun _=>[]) trivial (fun k hlt _=>?_) (fun _=>?_)
 ·have hx:=zj5 hlt
  have hP:=hP _ (qaf hlt)
  have hW:=hW _ (qaf hlt)
  have hN:=hN _ (qaf hlt)
  generalize p.nodes[k]=n at*
  have hm2:(n.eqs.map equT).length=n.eqs.length:=qab _
  have hn2:=zaB equT 7 n.eqs
  have hn3:=zlu n
  unfold nodC at hx
  repeat' (first|refine wu ?_|exact wkc|intro hc|refine wk2 ?_ ?_|fail)
  refine TR.zaA n.eqs.length (fun _=>True) (fun j=>[(1,.cp [.sl 2 (p.enums.map enT),.sl 8 (p.nodes.map nodT)] 0),(4,.b true),(5,.i k),(6,.i j)]) (fun _=>[]) trivial (fun j hlj _=>?_) (fun _=>?_)
  ·have hx2:=ziz hlj
   obtain⟨⟨p1,p2⟩,p3⟩:=hP _ (qaf hlj)
   have hW:=hW _ (qaf hlj)
   generalize n.eqs[j]=u at*
   have hwe:wEx u.right≤2200000:=qaq (zh8 _) hW
   have s1:=zhU hE u.right (qaq hwe (by decide)) (fun x hx=>qaq (ziJ _ u.right (qae _) x hx) (qaq hW (by decide)))
   rw[p1]at s1
   have s2:=zl0 p.enums (shF p.enums 400 u.right) (qaq p3 (by decide)) (zuu _) hO (fun e i he=>by rw[zvJ p2 he];exact qaq hwe (by decide))
   rw[p2]at s2
   have s3:=zhM _ u.right (qae _) (qaq hwe (by decide))
   rw[zae]at s2 s3
   dsimp only at s1 s2
   clear p1 p2 hP
   generalize shF p.enums 400 u.right=tx2 at*
   unfold equC at hx2
   unfold exC at s1 s2 s3
   repeat' (first|refine wu ?_|exact wkc|intro hc|refine wk2 ?_ ?_|refine wv s1 ?_|refine wv s2 ?_|refine wv s3 ?_|fail)
   exact zab.zaI hlj trivial
  ·repeat' (first|refine wu ?_|exact wkc|intro hc|refine wk2 ?_ ?_|fail)
   exact zab.zaI hlt trivial
 ·repeat' (first|refine wu ?_|exact wkc|intro hc|refine wk2 ?_ ?_|refine wv ha ?_|fail)
  exact wkr
end Go.Proofs.YthmbhfgflijapaaGreatDoor
namespace Go.Proofs.YthmbhfgflijapaaGreatDoor
open Go Go.TL
variable {H:Type}
theorem ty_i{n:Nat}{d:DataW H}{ts:List T}(h:TyD Tryz.prog n 3 d ts):∃i:I64,ts=[T.n i]:=by
 cases n with
 | zero=>exact h.elim
 | succ n=>
   simp only[TyD,Tryz.underlying3]at h
   obtain⟨i,rfl,rfl,hw⟩:=h
   have h2:-9223372036854775808≤i/\i≤9223372036854775807:=by
    simpa [Lit.wf,IntKind.min,IntKind.max,IntKind.signed,IntKind.bits]using hw
   exact⟨⟨i,h2⟩,rfl⟩
theorem ty_s{n:Nat}{d:DataW H}{ts:List T}(h:TyD Tryz.prog n 9 d ts):∃l:Str,ts=[T.s l]:=by
 cases n with
 | zero=>exact h.elim
 | succ n=>
   simp only[TyD,Tryz.underlying9]at h
   obtain⟨l,_,h2,_⟩:=h
   exact⟨l,h2⟩
theorem ty_b{n:Nat}{d:DataW H}{ts:List T}(h:TyD Tryz.prog n 4 d ts):∃b:Bool,ts=[T.b b]:=by
 cases n with
 | zero=>exact h.elim
 | succ n=>
   simp only[TyD,Tryz.underlying4]at h
   obtain⟨b,_,h2⟩:=h
   exact⟨b,h2⟩
theorem zd1{α:Type}(f:α->T){n sz:Nat}{t e:TypeId}(hu:Tryz.prog.underlying t=some (.slice e))(hs:Tryz.prog.cellsOf e=sz){d:DataW H}{ts:List T}(h:TyD Tryz.prog n t d ts)
  (dec:∀m,m<n->∀(d:DataW H) ts,TyD Tryz.prog m e d ts->∃a:α,mkT (aggB Tryz.prog e) ts=f a):∃l:List α,ts=[.sl sz (l.map f)]:=by
 cases n with
 | zero=>exact h.elim
 | succ n=>
   simp only[TyD,hu]at h
   obtain⟨els,sp,es,_,hy,hl,hm,he⟩:=h
   have key:∀(es:List T) (els:List (DataW H)),es.length=els.length->(∀(i:Nat) x y,els[i]?=some x->es[i]?=some y->y=mkT (aggB Tryz.prog e) y.cells/\TyD Tryz.prog n e x y.cells)->∃l:List α,es=l.map f:=by
    intro es
    induction es with
    | nil=>intro els _ _;exact⟨[],rfl⟩
    | cons y es ih=>
      intro els hl he
      cases els with
      | nil=>simp at hl
      | cons x els=>
        obtain⟨l,hl1⟩:=ih els (by simpa using hl) (fun i x y hx hy=>he (i+1) x y (by simpa using hx) (by simpa using hy))
        obtain⟨g1,g2⟩:=he 0 x y rfl rfl
        obtain⟨a,g3⟩:=dec n (qbD n) x y.cells g2
        exact⟨a::l,by rw[hl1,g1,g3];rfl⟩
   obtain⟨l,rfl⟩:=key es els hl he
   exact⟨l,by rw[hy,hs]⟩
theorem zm0:Tryz.prog.cellsOf 3=1:=by kernel_rfl
theorem ziB:Tryz.prog.cellsOf 9=1:=by kernel_rfl
theorem zsL:Tryz.prog.cellsOf 33=1:=by kernel_rfl
theorem zrt:Tryz.prog.cellsOf 38=6:=by kernel_rfl
theorem zoW:aggB Tryz.prog 38=true:=by unfold aggB;rw[Tryz.underlying38]
theorem zsy:∀(n m:Nat),m≤n->∀(d:DataW H) (ts:List T),TyD Tryz.prog m 38 d ts->∃e:Ex,ts=exC e:=by
 intro n
 induction n with
 | zero=>intro m hm d ts h;have:m=0:=by omega
         subst this;exact h.elim
 | succ n ih=>
   intro m hm d ts h
   cases m with
   | zero=>exact h.elim
   | succ m=>
     simp only[TyD,Tryz.underlying38]at h
     obtain⟨xs,rfl,hl,hx,hf⟩:=h
     rw[zrt]at hl
     match xs,hx,ts,hl with
     | [x0,x1,x2,x3,x4,x5],_,[a,b,c,e,g,i],_=>
       have f0:TyD Tryz.prog m 3 x0 (([a,b,c,e,g,i].drop 0).take (Tryz.prog.cellsOf 3)):=hf 0 _ x0 rfl rfl
       have f1:TyD Tryz.prog m 3 x1 (([a,b,c,e,g,i].drop 1).take (Tryz.prog.cellsOf 3)):=hf 1 _ x1 rfl rfl
       have f2:TyD Tryz.prog m 3 x2 (([a,b,c,e,g,i].drop 2).take (Tryz.prog.cellsOf 3)):=hf 2 _ x2 rfl rfl
       have f3:TyD Tryz.prog m 3 x3 (([a,b,c,e,g,i].drop 3).take (Tryz.prog.cellsOf 3)):=hf 3 _ x3 rfl rfl
       have f4:TyD Tryz.prog m 9 x4 (([a,b,c,e,g,i].drop 4).take (Tryz.prog.cellsOf 9)):=hf 4 _ x4 rfl rfl
       have f5:TyD Tryz.prog m 33 x5 (([a,b,c,e,g,i].drop 5).take (Tryz.prog.cellsOf 33)):=hf 5 _ x5 rfl rfl
       simp only[zm0,ziB,zsL,qbe,qbj,qaL,qbl]at f0 f1 f2 f3 f4 f5
       obtain⟨i0,e0⟩:=ty_i f0
       obtain⟨i1,e1⟩:=ty_i f1
       obtain⟨i2,e2⟩:=ty_i f2
       obtain⟨i3,e3⟩:=ty_i f3
       obtain⟨s4,e4⟩:=ty_s f4
       obtain⟨l,e5⟩:=zd1 exT Tryz.underlying33 zrt f5 (fun k hk d ts ht=>by
        obtain⟨a,ha⟩:=ih k (by omega) d ts ht
        exact⟨a,by rw[zoW,ha,zae];rfl⟩)
       simp only[qbi,and_true]at e0 e1 e2 e3 e4 e5
       subst e0 e1 e2 e3 e4 e5
       exact⟨.mk i0 i1 i2 i3 s4 l,rfl⟩
end Go.Proofs.YthmbhfgflijapaaGreatDoor
namespace Go.Proofs.YthmbhfgflijapaaGreatDoor
open Go Go.TL
variable {H:Type}
theorem ztE:Tryz.prog.cellsOf 4=1:=by kernel_rfl
theorem zoX:aggB Tryz.prog 9=false:=by unfold aggB;rw[Tryz.underlying9]
theorem zu3:Tryz.prog.cellsOf 36=1:=by kernel_rfl
theorem zu2:Tryz.prog.cellsOf 48=1:=by kernel_rfl
theorem zsQ:Tryz.prog.cellsOf 56=3:=by kernel_rfl
theorem zuV:aggB Tryz.prog 56=true:=by unfold aggB;rw[Tryz.underlying56]
theorem zmZ:Tryz.prog.cellsOf 30=1:=by kernel_rfl
theorem zfl:Tryz.prog.cellsOf 50=3:=by kernel_rfl
theorem zgI:aggB Tryz.prog 50=true:=by unfold aggB;rw[Tryz.underlying50]
theorem zsK:Tryz.prog.cellsOf 31=1:=by kernel_rfl
theorem zpm:Tryz.prog.cellsOf 40=7:=by kernel_rfl
theorem zoV:aggB Tryz.prog 40=true:=by unfold aggB;rw[Tryz.underlying40]
theorem zrs:Tryz.prog.cellsOf 123=1:=by kernel_rfl
theorem zjd:Tryz.prog.cellsOf 172=8:=by kernel_rfl
theorem zmM:aggB Tryz.prog 172=true:=by unfold aggB;rw[Tryz.underlying172]
theorem zmY:Tryz.prog.cellsOf 32=1:=by kernel_rfl
theorem zjc:Tryz.prog.cellsOf 122=1:=by kernel_rfl
theorem zmL:aggB Tryz.prog 122=true:=by unfold aggB;rw[Tryz.underlying122]
theorem zpf:Tryz.prog.cellsOf 120=1:=by kernel_rfl
theorem zkl:Tryz.prog.cellsOf 125=6:=by kernel_rfl
theorem ztz:aggB Tryz.prog 125=true:=by unfold aggB;rw[Tryz.underlying125]
theorem zrr:Tryz.prog.cellsOf 23=1:=by kernel_rfl
theorem zm3:Tryz.prog.cellsOf 35=8:=by kernel_rfl
theorem zty:aggB Tryz.prog 35=true:=by unfold aggB;rw[Tryz.underlying35]
theorem zu1:Tryz.prog.cellsOf 22=1:=by kernel_rfl
theorem zsO:Tryz.prog.cellsOf 74=2:=by kernel_rfl
theorem zuU:aggB Tryz.prog 74=true:=by unfold aggB;rw[Tryz.underlying74]
theorem zvb:Tryz.prog.cellsOf 9=1:=by kernel_rfl
theorem zsP:Tryz.prog.cellsOf 38=6:=by kernel_rfl
theorem zwW{n:Nat}{d:DataW H}{ts:List T}(h:TyD Tryz.prog n 56 d ts):∃o:OnC,ts=[.s o.name,T.n o.t,T.n o.tag]:=by
 cases n with
 | zero=>exact h.elim
 | succ m=>
   simp only[TyD,Tryz.underlying56]at h
   obtain⟨xs,rfl,hl,hx,hf⟩:=h
   rw[zsQ]at hl
   match xs,hx,ts,hl with
   | [x0,x1,x2],_,[a,b,c],_=>
     have f0:TyD Tryz.prog m 9 x0 (([a,b,c].drop 0).take (Tryz.prog.cellsOf 9)):=hf 0 _ x0 rfl rfl
     have f1:TyD Tryz.prog m 3 x1 (([a,b,c].drop 1).take (Tryz.prog.cellsOf 3)):=hf 1 _ x1 rfl rfl
     have f2:TyD Tryz.prog m 3 x2 (([a,b,c].drop 2).take (Tryz.prog.cellsOf 3)):=hf 2 _ x2 rfl rfl
     simp only[zm0,ziB,qbe,qbj,qaL,qbl]at f0 f1 f2
     obtain⟨v0,e0⟩:=ty_s f0
     obtain⟨v1,e1⟩:=ty_i f1
     obtain⟨v2,e2⟩:=ty_i f2
     simp only[qbi,and_true]at e0 e1 e2
     refine⟨⟨v0,v1,v2⟩,?_⟩
     simp_all
     try rfl
theorem zjS{n:Nat}{d:DataW H}{ts:List T}(h:TyD Tryz.prog n 50 d ts):∃o:Decl,ts=[.s o.name,T.n o.ty,.sl 3 (o.clock.map onT)]:=by
 cases n with
 | zero=>exact h.elim
 | succ m=>
   simp only[TyD,Tryz.underlying50]at h
   obtain⟨xs,rfl,hl,hx,hf⟩:=h
   rw[zfl]at hl
   match xs,hx,ts,hl with
   | [x0,x1,x2],_,[a,b,c],_=>
     have f0:TyD Tryz.prog m 9 x0 (([a,b,c].drop 0).take (Tryz.prog.cellsOf 9)):=hf 0 _ x0 rfl rfl
     have f1:TyD Tryz.prog m 3 x1 (([a,b,c].drop 1).take (Tryz.prog.cellsOf 3)):=hf 1 _ x1 rfl rfl
     have f2:TyD Tryz.prog m 48 x2 (([a,b,c].drop 2).take (Tryz.prog.cellsOf 48)):=hf 2 _ x2 rfl rfl
     simp only[zm0,zu2,ziB,qbe,qbj,qaL,qbl]at f0 f1 f2
     obtain⟨v0,e0⟩:=ty_s f0
     obtain⟨v1,e1⟩:=ty_i f1
     obtain⟨v2,e2⟩:=zd1 onT Tryz.underlying48 zsQ f2 (fun k hk d ts ht=>by
      obtain⟨u,hu⟩:=zwW ht
      exact⟨u,by rw[zuV];first|exact hu|(rw[hu];rfl)⟩)
     simp only[qbi,and_true]at e0 e1 e2
     refine⟨⟨v0,v1,v2⟩,?_⟩
     simp_all
     try rfl
theorem ztn{n:Nat}{d:DataW H}{ts:List T}(h:TyD Tryz.prog n 40 d ts):∃o:Equ,mkT true ts=equT o:=by
 cases n with
 | zero=>exact h.elim
 | succ m=>
   simp only[TyD,Tryz.underlying40]at h
   obtain⟨xs,rfl,hl,hx,hf⟩:=h
   rw[zpm]at hl
   match xs,hx,ts,hl with
   | [x0,x1],_,[a,b,c,e,g,i,j],_=>
     have f0:TyD Tryz.prog m 36 x0 (([a,b,c,e,g,i,j].drop 0).take (Tryz.prog.cellsOf 36)):=hf 0 _ x0 rfl rfl
     have f1:TyD Tryz.prog m 38 x1 (([a,b,c,e,g,i,j].drop 1).take (Tryz.prog.cellsOf 38)):=hf 1 _ x1 rfl rfl
     simp only[zu3,zrt,qbe,qbj,qaL,qbl]at f0 f1
     obtain⟨v0,e0⟩:=zd1 T.s Tryz.underlying36 zvb f0 (fun k hk d ts ht=>by
      obtain⟨u,hu⟩:=ty_s ht
      exact⟨u,by rw[zoX,hu];rfl⟩)
     obtain⟨v1,e1⟩:=zsy m m (qae _) _ _ f1
     unfold exC at e1
     simp only[qbi,and_true]at e0 e1
     refine⟨⟨v0,v1⟩,?_⟩
     simp_all
     try rfl
theorem zq1{n:Nat}{d:DataW H}{ts:List T}(h:TyD Tryz.prog n 172 d ts):∃o:Tran,mkT true ts=zay o:=by
 cases n with
 | zero=>exact h.elim
 | succ m=>
   simp only[TyD,Tryz.underlying172]at h
   obtain⟨xs,rfl,hl,hx,hf⟩:=h
   rw[zjd]at hl
   match xs,hx,ts,hl with
   | [x0,x1,x2],_,[a,b,c,e,g,i,j,k],_=>
     have f0:TyD Tryz.prog m 38 x0 (([a,b,c,e,g,i,j,k].drop 0).take (Tryz.prog.cellsOf 38)):=hf 0 _ x0 rfl rfl
     have f1:TyD Tryz.prog m 3 x1 (([a,b,c,e,g,i,j,k].drop 6).take (Tryz.prog.cellsOf 3)):=hf 1 _ x1 rfl rfl
     have f2:TyD Tryz.prog m 4 x2 (([a,b,c,e,g,i,j,k].drop 7).take (Tryz.prog.cellsOf 4)):=hf 2 _ x2 rfl rfl
     simp only[ztE,zm0,zrt,qbe,qbj,qaL,qbl]at f0 f1 f2
     obtain⟨v0,e0⟩:=zsy m m (qae _) _ _ f0
     obtain⟨v1,e1⟩:=ty_i f1
     obtain⟨v2,e2⟩:=ty_b f2
     unfold exC at e0
     simp only[qbi,and_true]at e0 e1 e2
     refine⟨⟨v0,v1,v2⟩,?_⟩
     simp_all
     try rfl
theorem zwV{n:Nat}{d:DataW H}{ts:List T}(h:TyD Tryz.prog n 74 d ts):∃o:En,mkT true ts=enT o:=by
 cases n with
 | zero=>exact h.elim
 | succ m=>
   simp only[TyD,Tryz.underlying74]at h
   obtain⟨xs,rfl,hl,hx,hf⟩:=h
   rw[zsO]at hl
   match xs,hx,ts,hl with
   | [x0,x1],_,[a,b],_=>
     have f0:TyD Tryz.prog m 9 x0 (([a,b].drop 0).take (Tryz.prog.cellsOf 9)):=hf 0 _ x0 rfl rfl
     have f1:TyD Tryz.prog m 36 x1 (([a,b].drop 1).take (Tryz.prog.cellsOf 36)):=hf 1 _ x1 rfl rfl
     simp only[zu3,ziB,qbe,qbj,qaL,qbl]at f0 f1
     obtain⟨v0,e0⟩:=ty_s f0
     obtain⟨v1,e1⟩:=zd1 T.s Tryz.underlying36 zvb f1 (fun k hk d ts ht=>by
      obtain⟨u,hu⟩:=ty_s ht
      exact⟨u,by rw[zoX,hu];rfl⟩)
     simp only[qbi,and_true]at e0 e1
     refine⟨⟨v0,v1⟩,?_⟩
     simp_all
     try rfl
end Go.Proofs.YthmbhfgflijapaaGreatDoor
namespace Go.Proofs.YthmbhfgflijapaaGreatDoor
open Go Go.TL
variable {H:Type}
theorem ztM:Tryz.prog.cellsOf 25=2:=by kernel_rfl
theorem zrj:aggB Tryz.prog 25=true:=by unfold aggB;rw[Tryz.underlying25]
theorem zv0{n:Nat}(rec:∀j,j<n->∀(d:DataW H) ts,TyD Tryz.prog j 122 d ts->∃o:Auto,mkT true ts=zar o){d:DataW H}{ts:List T}(h:TyD Tryz.prog n 125 d ts):∃o:Sta,mkT true ts=staT o:=by
 cases n with
 | zero=>exact h.elim
 | succ m=>
   simp only[TyD,Tryz.underlying125]at h
   obtain⟨xs,rfl,hl,hx,hf⟩:=h
   rw[zkl]at hl
   match xs,hx,ts,hl with
   | [x0,x1,x2,x3,x4,x5],_,[a,b,c,e,g,i],_=>
     have f0:TyD Tryz.prog m 9 x0 (([a,b,c,e,g,i].drop 0).take (Tryz.prog.cellsOf 9)):=hf 0 _ x0 rfl rfl
     have f1:TyD Tryz.prog m 30 x1 (([a,b,c,e,g,i].drop 1).take (Tryz.prog.cellsOf 30)):=hf 1 _ x1 rfl rfl
     have f2:TyD Tryz.prog m 31 x2 (([a,b,c,e,g,i].drop 2).take (Tryz.prog.cellsOf 31)):=hf 2 _ x2 rfl rfl
     have f3:TyD Tryz.prog m 32 x3 (([a,b,c,e,g,i].drop 3).take (Tryz.prog.cellsOf 32)):=hf 3 _ x3 rfl rfl
     have f4:TyD Tryz.prog m 123 x4 (([a,b,c,e,g,i].drop 4).take (Tryz.prog.cellsOf 123)):=hf 4 _ x4 rfl rfl
     have f5:TyD Tryz.prog m 123 x5 (([a,b,c,e,g,i].drop 5).take (Tryz.prog.cellsOf 123)):=hf 5 _ x5 rfl rfl
     simp only[zmY,zmZ,zsK,ziB,zrs,qbe,qbj,qaL,qbl]at f0 f1 f2 f3 f4 f5
     obtain⟨v0,e0⟩:=ty_s f0
     obtain⟨v1,e1⟩:=zd1 zav Tryz.underlying30 zfl f1 (fun k hk d ts ht=>by
      obtain⟨u,hu⟩:=zjS ht
      exact⟨u,by rw[zgI];first|exact hu|(rw[hu];rfl)⟩)
     obtain⟨v2,e2⟩:=zd1 equT Tryz.underlying31 zpm f2 (fun k hk d ts ht=>by
      obtain⟨u,hu⟩:=ztn ht
      exact⟨u,by rw[zoV];first|exact hu|(rw[hu];rfl)⟩)
     obtain⟨v3,e3⟩:=zd1 zar Tryz.underlying32 zjc f3 (fun k hk d ts ht=>by
      obtain⟨u,hu⟩:=rec k (by omega) d ts ht
      exact⟨u,by rw[zmL];first|exact hu|(rw[hu];rfl)⟩)
     obtain⟨v4,e4⟩:=zd1 zay Tryz.underlying123 zjd f4 (fun k hk d ts ht=>by
      obtain⟨u,hu⟩:=zq1 ht
      exact⟨u,by rw[zmM];first|exact hu|(rw[hu];rfl)⟩)
     obtain⟨v5,e5⟩:=zd1 zay Tryz.underlying123 zjd f5 (fun k hk d ts ht=>by
      obtain⟨u,hu⟩:=zq1 ht
      exact⟨u,by rw[zmM];first|exact hu|(rw[hu];rfl)⟩)
     simp only[qbi,and_true]at e0 e1 e2 e3 e4 e5
     subst e0 e1 e2 e3 e4 e5
     refine⟨.mk v0 v1 v2 v3 v4 v5,?_⟩
     rw[zlg];unfold staC
     rfl
theorem zuG:∀(n m:Nat),m≤n->∀(d:DataW H) (ts:List T),TyD Tryz.prog m 122 d ts->∃o:Auto,mkT true ts=zar o:=by
 intro n
 induction n with
 | zero=>intro m hm d ts h;have:m=0:=by omega
         subst this;exact h.elim
 | succ n ih=>
   intro m hm d ts h
   cases m with
   | zero=>exact h.elim
   | succ m=>
     simp only[TyD,Tryz.underlying122]at h
     obtain⟨xs,rfl,hl,hx,hf⟩:=h
     rw[zjc]at hl
     match xs,hx,ts,hl with
     | [x0],_,[a],_=>
       have f0:TyD Tryz.prog m 120 x0 (([a].drop 0).take (Tryz.prog.cellsOf 120)):=hf 0 _ x0 rfl rfl
       simp only[zpf,qbe,qaL,qbl]at f0
       obtain⟨v0,e0⟩:=zd1 staT Tryz.underlying120 zkl f0 (fun k hk d ts ht=>by
        obtain⟨u,hu⟩:=zv0 (fun j hj d ts h=>ih j (by omega) d ts h) ht
        exact⟨u,by rw[ztz];exact hu⟩)
       simp only[qbi,and_true]at e0
       subst e0
       refine⟨.mk v0,?_⟩
       rw[zlH]
       rfl
theorem zvZ{n:Nat}{d:DataW H}{ts:List T}(h:TyD Tryz.prog n 35 d ts):∃o:Nod,mkT true ts=nodT o:=by
 cases n with
 | zero=>exact h.elim
 | succ m=>
   simp only[TyD,Tryz.underlying35]at h
   obtain⟨xs,rfl,hl,hx,hf⟩:=h
   rw[zm3]at hl
   match xs,hx,ts,hl with
   | [x0,x1,x2,x3,x4,x5,x6,x7],_,[a,b,c,e,g,i,j,k],_=>
     have f0:TyD Tryz.prog m 9 x0 (([a,b,c,e,g,i,j,k].drop 0).take (Tryz.prog.cellsOf 9)):=hf 0 _ x0 rfl rfl
     have f1:TyD Tryz.prog m 30 x1 (([a,b,c,e,g,i,j,k].drop 1).take (Tryz.prog.cellsOf 30)):=hf 1 _ x1 rfl rfl
     have f2:TyD Tryz.prog m 30 x2 (([a,b,c,e,g,i,j,k].drop 2).take (Tryz.prog.cellsOf 30)):=hf 2 _ x2 rfl rfl
     have f3:TyD Tryz.prog m 30 x3 (([a,b,c,e,g,i,j,k].drop 3).take (Tryz.prog.cellsOf 30)):=hf 3 _ x3 rfl rfl
     have f4:TyD Tryz.prog m 31 x4 (([a,b,c,e,g,i,j,k].drop 4).take (Tryz.prog.cellsOf 31)):=hf 4 _ x4 rfl rfl
     have f5:TyD Tryz.prog m 32 x5 (([a,b,c,e,g,i,j,k].drop 5).take (Tryz.prog.cellsOf 32)):=hf 5 _ x5 rfl rfl
     have f6:TyD Tryz.prog m 33 x6 (([a,b,c,e,g,i,j,k].drop 6).take (Tryz.prog.cellsOf 33)):=hf 6 _ x6 rfl rfl
     have f7:TyD Tryz.prog m 33 x7 (([a,b,c,e,g,i,j,k].drop 7).take (Tryz.prog.cellsOf 33)):=hf 7 _ x7 rfl rfl
     simp only[zmY,zmZ,zsK,zsL,ziB,qbe,qbj,qaL,qbl]at f0 f1 f2 f3 f4 f5 f6 f7
     obtain⟨v0,e0⟩:=ty_s f0
     obtain⟨v1,e1⟩:=zd1 zav Tryz.underlying30 zfl f1 (fun k hk d ts ht=>by
      obtain⟨u,hu⟩:=zjS ht
      exact⟨u,by rw[zgI];first|exact hu|(rw[hu];rfl)⟩)
     obtain⟨v2,e2⟩:=zd1 zav Tryz.underlying30 zfl f2 (fun k hk d ts ht=>by
      obtain⟨u,hu⟩:=zjS ht
      exact⟨u,by rw[zgI];first|exact hu|(rw[hu];rfl)⟩)
     obtain⟨v3,e3⟩:=zd1 zav Tryz.underlying30 zfl f3 (fun k hk d ts ht=>by
      obtain⟨u,hu⟩:=zjS ht
      exact⟨u,by rw[zgI];first|exact hu|(rw[hu];rfl)⟩)
     obtain⟨v4,e4⟩:=zd1 equT Tryz.underlying31 zpm f4 (fun k hk d ts ht=>by
      obtain⟨u,hu⟩:=ztn ht
      exact⟨u,by rw[zoV];first|exact hu|(rw[hu];rfl)⟩)
     obtain⟨v5,e5⟩:=zd1 zar Tryz.underlying32 zjc f5 (fun k hk d ts ht=>by
      obtain⟨u,hu⟩:=zuG k k (qae _) d ts ht
      exact⟨u,by rw[zmL];first|exact hu|(rw[hu];rfl)⟩)
     obtain⟨v6,e6⟩:=zd1 exT Tryz.underlying33 zsP f6 (fun k hk d ts ht=>by
      obtain⟨u,hu⟩:=zsy k k (qae _) _ _ ht
      exact⟨u,by rw[zoW,hu,zae];rfl⟩)
     obtain⟨v7,e7⟩:=zd1 exT Tryz.underlying33 zsP f7 (fun k hk d ts ht=>by
      obtain⟨u,hu⟩:=zsy k k (qae _) _ _ ht
      exact⟨u,by rw[zoW,hu,zae];rfl⟩)
     simp only[qbi,and_true]at e0 e1 e2 e3 e4 e5 e6 e7
     subst e0 e1 e2 e3 e4 e5 e6 e7
     refine⟨⟨v0,v1,v2,v3,v4,v5,v6,v7⟩,?_⟩
     skip
     rfl
theorem zuH{n:Nat}{d:DataW H}{ts:List T}(h:TyD Tryz.prog n 25 d ts):∃o:Prog,mkT true ts= .ag (za8 o):=by
 cases n with
 | zero=>exact h.elim
 | succ m=>
   simp only[TyD,Tryz.underlying25]at h
   obtain⟨xs,rfl,hl,hx,hf⟩:=h
   rw[ztM]at hl
   match xs,hx,ts,hl with
   | [x0,x1],_,[a,b],_=>
     have f0:TyD Tryz.prog m 22 x0 (([a,b].drop 0).take (Tryz.prog.cellsOf 22)):=hf 0 _ x0 rfl rfl
     have f1:TyD Tryz.prog m 23 x1 (([a,b].drop 1).take (Tryz.prog.cellsOf 23)):=hf 1 _ x1 rfl rfl
     simp only[zu1,zrr,qbe,qbj,qaL,qbl]at f0 f1
     obtain⟨v0,e0⟩:=zd1 enT Tryz.underlying22 zsO f0 (fun k hk d ts ht=>by
      obtain⟨u,hu⟩:=zwV ht
      exact⟨u,by rw[zuU];first|exact hu|(rw[hu];rfl)⟩)
     obtain⟨v1,e1⟩:=zd1 nodT Tryz.underlying23 zm3 f1 (fun k hk d ts ht=>by
      obtain⟨u,hu⟩:=zvZ ht
      exact⟨u,by rw[zty];first|exact hu|(rw[hu];rfl)⟩)
     simp only[qbi,and_true]at e0 e1
     subst e0 e1
     refine⟨⟨v0,v1⟩,?_⟩
     skip
     rfl
end Go.Proofs.YthmbhfgflijapaaGreatDoor
namespace Go.Proofs.YthmbhfgflijapaaGreatDoor
open Go Go.TL
variable {H:Type}
def zlm(P:Program):Nat->List Field->Nat->Bool
 | o,[],e=>Nat.beq o e
 | o,g::gs,e=>Nat.beq g.offset o && zlm P (o+P.cellsOf g.type) gs e
def zqS(P:Program)(t:TypeId):Bool:=match P.underlying t with
 | some (.struct fs)=>zlm P 0 fs.toList (P.cellsOf t)
 | _=>true
theorem zln{P:Program}:∀(gs:List Field) (xs:List (DataW H)) (o e:Nat) (ts:List T),gs.length=xs.length->zlm P o gs e=true->ts.length=e->
  (∀(j:Nat) g x,gs[j]?=some g->xs[j]?=some x->((((ts.drop g.offset).take (P.cellsOf g.type)).map T.w).sum+1≤2*Rows.uptoBulk x))->((ts.drop o).map T.w).sum≤2*Rows.uptoBulkAll xs
 | [],[],o,e,ts,_,ht,hl,_=>by
   simp[zlm]at ht
   rw[qaY (by omega)];simp
 | g::gs,x::xs,o,e,ts,hlen,ht,hl,h=>by
   simp only[zlm,qau,Nat.beq_eq]at ht
   obtain⟨h1,h2⟩:=ht
   have ih:=zln gs xs (o+P.cellsOf g.type) e ts (by simpa using hlen) h2 hl (fun j g x hg hx=>h (j+1) g x (by simpa using hg) (by simpa using hx))
   have h0:=h 0 g x rfl rfl
   rw[h1]at h0
   have hs:ts.drop o=(ts.drop o).take (P.cellsOf g.type)++ts.drop (o+P.cellsOf g.type):=by
    rw[<-qbP,qaV]
   rw[hs,qaH,qck]
   simp only[Rows.uptoBulkAll]
   omega
 | [],_::_,_,_,_,hlen,_,_,_=>by simp at hlen
 | _::_,[],_,_,_,hlen,_,_,_=>by simp at hlen
theorem zuF{P:Program}{l:List TypeId}(hP:zb0 P l=true)(hT:∀t∈l,zqS P t=true):∀(n:Nat) (t:TypeId),t∈l->∀(d:DataW H) (ts:List T),TyD P n t d ts->(ts.map T.w).sum+1≤2*Rows.uptoBulk d
 | 0,_,_,_,_,h=>h.elim
 | n+1,t,htl,d,ts,h=>by
   unfold TyD at h
   have ht:=hT t htl
   have hcl:=qaw.1 hP t htl
   unfold zqS at ht
   split at h
   ·obtain⟨b,rfl,rfl⟩:=h;simp[Rows.uptoBulk,T.w,strW]
   ·obtain⟨i,rfl,rfl,_⟩:=h;simp[Rows.uptoBulk,T.w,strW]
   ·obtain⟨l,rfl,rfl,_⟩:=h
    have:(T.v (str l)).w=1+l.length:=w_s l
    simp only[qah,qaC,qay,qaQ,Rows.uptoBulk]
    omega
   ·rename_i e hu
    have hel:e∈l:=by rw[hu]at hcl;simp at hcl;exact hcl.1.2
    obtain⟨els,sp,es,hd,rfl,hl,_,he⟩:=h
    have key:∀(es:List T) (els:List (DataW H)),es.length=els.length->(∀(i:Nat) x y,els[i]?=some x->es[i]?=some y->y=mkT (aggB P e) y.cells/\TyD P n e x y.cells)->(es.map T.w).sum≤2*Rows.uptoBulkAll els:=by
     intro es
     induction es with
     | nil=>intro els hl _;simp
     | cons y es ih=>
       intro els hl he
       cases els with
       | nil=>simp at hl
       | cons x els=>
         have h1:=ih els (by simpa using hl) (fun i x y hx hy=>he (i+1) x y (by simpa using hx) (by simpa using hy))
         obtain⟨g1,g2⟩:=he 0 x y rfl rfl
         have h2:=zuF hP hT n e hel x y.cells g2
         have h3:y.w≤(y.cells.map T.w).sum+1:=by
          cases y with
          | ag cs=>rw[w_ag];simp[T.cells];omega
          | v x=>simp[T.cells]
          | sl sz es=>simp[T.cells]
         simp only[qah,qay,Rows.uptoBulkAll]
         omega
    have hk:=key es els hl he
    have hw:((T.sl (P.cellsOf e) es).w)=1+(es.map T.w).sum:=w_sl _ _
    simp only[qah,qaC,qay,qaQ]
    rcases hd with ⟨rfl,rfl⟩|rfl
    ·simp[Rows.uptoBulkAll]at hk
     simp only[Rows.uptoBulk];omega
    ·simp only[Rows.uptoBulk];omega
   ·rename_i fs hu
    obtain⟨xs,rfl,hl,hx,hf⟩:=h
    rw[hu]at ht
    have:=zln fs.toList xs 0 (P.cellsOf t) ts (by simpa using hx.symm) ht hl (fun j g x hg hx=>zuF hP hT n g.type (by rw[hu]at hcl;exact qbT.1 (qaw.1 hcl g (qas hg))) x _ (hf j g x (by simpa using hg) hx))
    simp only[qbe]at this
    simp only[Rows.uptoBulk];omega
   ·exact h.elim
end Go.Proofs.YthmbhfgflijapaaGreatDoor
namespace Go.Proofs.YthmbhfgflijapaaGreatDoor
open Go Go.TL
variable {H:Type}
def zum:List TypeId:=[25,22,74,23,35,30,50,48,56,31,40,33,38,32,122,120,125,123,172,36,9,3,4,5]
theorem zs7:zb0 Tryz.prog zum=true:=by kernel_rfl
theorem zvV:∀t∈zum,zqS Tryz.prog t=true:=qaw.1 (by kernel_rfl)
theorem zpy{P:Program}{t:TypeId}{ts:List TypeId}{ds:List (DataW H)}{ys:List T}(h:Fits P (t::ts) ds ys):∃d ds' y ys',ds=d::ds'/\ys=y::ys'/\(y=mkT (aggB P t) y.cells/\∃n,TyD P n t d y.cells)/\Fits P ts ds' ys':=by
 cases ds with
 | nil=>cases ys <;> exact h.elim
 | cons d ds=>cases ys with
   | nil=>exact h.elim
   | cons y ys=>exact⟨d,ds,y,ys,rfl,rfl,h.1,h.2⟩
theorem zrL{P:Program}{ds:List (DataW H)}{ys:List T}(h:Fits P [] ds ys):ds=[]/\ys=[]:=by
 cases ds <;> cases ys <;> first|exact⟨rfl,rfl⟩|exact h.elim
theorem zpe(d:DataW H)(ds:List (DataW H)):Rows.uptoBulkAll (d::ds)=Rows.uptoBulk d+Rows.uptoBulkAll ds:=by simp[Rows.uptoBulkAll]
theorem zun{d:DataW H}{y:T}(h:y=mkT (aggB Tryz.prog 25) y.cells/\∃n,TyD Tryz.prog n 25 d y.cells):∃p:Prog,y= .ag (za8 p)/\(T.ag (za8 p)).w≤2*Rows.uptoBulk d:=by
 obtain⟨h1,n,h2⟩:=h
 obtain⟨p,hp⟩:=zuH h2
 rw[zrj,hp]at h1
 have:=zuF zs7 zvV n _ (by decide +kernel) d y.cells h2
 refine⟨p,h1,?_⟩
 have hc:y.cells=za8 p:=by rw[h1];rfl
 rw[hc]at this
 rw[w_ag];omega
end Go.Proofs.YthmbhfgflijapaaGreatDoor
