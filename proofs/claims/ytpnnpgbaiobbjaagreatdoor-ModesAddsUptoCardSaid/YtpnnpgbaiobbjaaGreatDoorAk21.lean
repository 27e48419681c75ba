import Derived.Test.YtpnnpgbaiobbjaaGreatDoorAk20
set_option linter.all false
namespace Go.Proofs.YtpnnpgbaiobbjaaGreatDoor
open Go Go.TL
attribute [local irreducible] TR TO Then zao RetK Sound zab Kf GG zaZ
structure KS where
 a:List Str
 es:List T
 c:Nc
 L:List Decl
 Q:List T
 sts:List Sta
 t:I64
 defs:List Decl
 was:Str
 flag:Str
 cs:List (List Str)
 now:Str
 reset:Str
 bodies:List Nod
 parts:List (List Str)
 next:Str
 back:Str
abbrev KS.k (x:KS):Kt:=⟨.sl 6 (x.sts.map staT),x.t.1,x.defs.map zaa,x.was,x.flag,x.cs.map fun l=>T.sl 1 (l.map T.s),x.now,x.reset,x.bodies.map nodT,x.parts.map fun l=>T.sl 1 (l.map T.s),x.next,x.back⟩
abbrev KS.H (x:KS):Heap:=kH x.a x.es x.c (x.L.map zaa) x.Q x.k
abbrev KS.G (x:KS):Heap:=x.H++[kx]
def z64:I64:=i64 0
def mrgE(nm:Str)(t:I64)(l:List Ex):Ex:=.mk (i64 9) z64 t z64 nm l
def toL(x:KS)(t:Tran):Ex:=cnE x.t t.to
def rsL(x:KS)(t:Tran):Ex:=cnE bT (rstE t)
def onL(x:KS)(nm:Str)(i:Nat):OnC:=⟨nm,x.t,toI i⟩
def zbf(x:KS)(i j:Nat):Str:=(x.cs[i]?.bind (·[j]?)).getD []
def chL(x:KS)(i:Nat)(th:Tran->Ex)(j:Nat)(t:Tran):Ex×Ex:=(smE (zbf x i j) (onL x x.was i),th t)
def zbl(x:KS)(i:Nat)(s:Sta)(th:Tran->Ex)(e:Ex):Ex:=zdn (s.unl.mapIdx (chL x i th)) e
theorem zeI{σ α β:Type}(f:Nat->α->β):∀(l:List α) (i:Nat) (s:σ),mapN (fun i (s:σ) x=>(s,f i x)) i s l=(s,l.mapIdx fun j x=>f (i+j) x)
 | [],_,_=>rfl
 | x::l,i,s=>by
   unfold mapN
   rw[zeI f l]
   simp[qcB,qcP,Nat.add_left_comm]
theorem zpe(x:KS)(nm:Str)(i:Nat)(hi:i≤1000000000):onT (onL x nm i)= .ag [.s nm,.v (.int .i64 x.t.1),.v (.int .i64 (i:Int))]:=by
 unfold onT onL
 rw[zwR hi]
theorem znj(x:KS)(t:Tran):Sound Tryz.prog 193 [.t (zah t),.ref 13 0] x.G (fun r H'=>r= .ret (.t (.ag (exC (toL x t))))/\H'=x.G):=by
 have c1:=zaT x.t t.to
 unfold zah
 refine so Tryz.func193 ?_
 repeat' (first|refine wkt ?_|refine zqx ?_|fail)
 apply TR.zaw 0 (g:=True) [(_,0,0),(_,0,0),(_,0,0),(_,0,0),(_,0,0),(_,0,0),(_,0,0),(.any,1,0)] [x.G++[.cells [.i 0,.i 0,.i 0,.i 0,.s [],.t (.v (.slice none 0 0))]],x.G++[.cells [.t (T.n (toL x t).kind),.t (T.n (toL x t).op),.t (T.n (toL x t).t),.t (T.n (toL x t).v),.t (.s (toL x t).name),.t (.sl 6 ((toL x t).args.map exT))]]] hmix
 case hB=>exact zqv
 case h0=>exact rfl
 case hp=>
  repeat' (first|exact trivial|exact⟨⟨rfl,rfl⟩,trivial⟩|exact qaf rfl rfl|refine qaf (fun env=>?_) ?_|refine qaf ?_ ?_|refine wma ?_|refine wmv c1 ?_|refine wmk ?_|fail)
  done
 case hc=>exact rfl
 case hF=>exact rfl
 case hE=>exact rfl
 intro _
 repeat' (first|refine wkt ?_|refine wk ?_|fail)
 refine RetK.keep 14 rfl (?_:Le _ (.t (.ag (exC (toL x t))))) rfl rfl rfl rfl rfl ⟨rfl,rfl⟩
 exact Le.tree rfl (TLe.refl _)
theorem znk(x:KS)(t:Tran):Pure Tryz.prog 195 [.t (zah t)] (.t (.ag (exC (rsL x t)))):=by
 have c1:=zeZ t
 have c2:=zaT bT (rstE t)
 unfold zah at*
 refine so Tryz.func195 ?_
 repeat' (first|refine wkt ?_|refine wv c1 ?_|refine wv c2 ?_|refine wk ?_|fail)
 exact wkr
abbrev thA:Blk:=.cells [.fn 193 [.ref 13 0]]
set_option maxHeartbeats 8000000 in
theorem zjX (x:KS) (i j:Nat) (t:Tran) (hi:i≤1000000) (hC:∃l,x.cs[i]?=some l/\l[j]?=some (zbf x i j)) (hcl:x.cs.length≤1000000) (hll:∀l∈x.cs,l.length≤1000000):Sound Tryz.prog 251 [.i j,.t (zah t),.ref 14 0,.cp [T.i i] 0,.ref 15 0] (x.G++[kx,thA])
  (fun r H'=>r= .ret (.t (chT (chL x i (toL x) j t)))/\H'=x.G++[kx,thA]):=by
 obtain⟨l,hl1,hl2⟩:=hC
 have c1:=zdD x.a x.es x.c (x.L.map zaa) x.Q x.k x.was i
 have ho:=zpe x x.was i (by omega)
 have c2:=zbR (zbf x i j) (onL x x.was i)
 rw[ho]at c2
 have c3:=znj x t
 have hx:(x.cs.map fun l=>T.sl 1 (l.map T.s))[i]?=some (T.sl 1 (l.map T.s)):=by rw[qau,hl1];rfl
 have hy:(l.map T.s)[j]?=some (T.s (zbf x i j)):=by rw[qau,hl2];rfl
 have hil:=(qab.1 hl1).1
 have hjl:=(qab.1 hl2).1
 have hlm:=hll l (qat hl1)
 have hm1:(x.cs.map fun l=>T.sl 1 (l.map T.s)).length=x.cs.length:=qaa _
 have hm2:(l.map T.s).length=l.length:=qaa _
 have hch:chL x i (toL x) j t=(smE (zbf x i j) (onL x x.was i),toL x t):=rfl
 rw[hch]
 generalize smE (zbf x i j) (onL x x.was i)=e1 at*
 generalize toL x t=e2 at*
 generalize zbf x i j=nm at*
 unfold zah at*
 refine so Tryz.func251 ?_
 repeat' (first|refine wkt ?_|refine zqx ?_|fail)
 apply TR.zaw 0 (g:=True) [(_,0,0),(_,0,0),(_,0,0),(_,0,0),(_,0,0),(_,0,0),(_,0,0),(_,0,0),(_,0,0),(_,0,0),(_,0,0),(_,0,0),(_,0,0),(_,0,0),(_,0,0),(_,0,0),(_,0,0),(_,0,0),(_,0,0),(_,0,0),(_,0,0),(_,0,0),(.any,1,0)] [x.G++[kx,thA,.cells [.i 0,.i 0,.i 0,.i 0,.s [],.t (.v (.slice none 0 0)),.i 0,.i 0,.i 0,.i 0,.s [],.t (.v (.slice none 0 0))]],x.G++[kx,thA,.cells ([.t (T.n (e1).kind),.t (T.n (e1).op),.t (T.n (e1).t),.t (T.n (e1).v),.t (.s (e1).name),.t (.sl 6 ((e1).args.map exT))]++[.t (T.n (e2).kind),.t (T.n (e2).op),.t (T.n (e2).t),.t (T.n (e2).v),.t (.s (e2).name),.t (.sl 6 ((e2).args.map exT))])]] hmix
 case hB=>exact zqv
 case h0=>exact rfl
 case hp=>
  repeat' (first|exact trivial|exact⟨⟨rfl,rfl⟩,trivial⟩|exact qaf rfl rfl|refine qaf (fun env=>?_) ?_|refine qaf ?_ ?_|refine wma ?_|(apply TO.indexAddr zag;(iterate 8 exact rfl);omega;exact hx)|(apply TO.indexAddr zag;(iterate 8 exact rfl);omega;exact hy)|(apply TO.zaE 13 c1;(iterate 3 exact rfl);exact zqb;(iterate 8 exact rfl))|refine wmv c2 ?_|(apply TO.zaE 14 c3;(iterate 3 exact rfl);exact zqb;(iterate 8 exact rfl))|refine wmk ?_|fail)
  done
 case hc=>exact rfl
 case hF=>exact rfl
 case hE=>exact rfl
 intro _
 repeat' (first|refine wkt ?_|refine wk ?_|fail)
 refine RetK.keep 16 rfl (?_:Le _ (.t (chT (e1,e2)))) rfl rfl rfl rfl rfl ⟨rfl,rfl⟩
 exact Le.tree rfl (TLe.refl _)
set_option maxHeartbeats 8000000 in
theorem zlj (x:KS) (i:Nat) (s:Sta) (hi:i≤1000000) (hu:s.unl.length≤1000000) (hC:∀j,j<s.unl.length->∃l,x.cs[i]?=some l/\l[j]?=some (zbf x i j)) (hcl:x.cs.length≤1000000) (hll:∀l∈x.cs,l.length≤1000000) (e:Ex):
  Sound Tryz.prog 192 [.ref 8 0,.i i,.t (staT s),.fn 193 [.ref 13 0],.t (.ag (exC e))] x.G (fun r H'=>r= .ret (.t (.ag (exC (zbl x i s (toL x) e))))/\H'=x.G):=by
 have c1:=zhV (fun _:Unit=>x.G++[kx,thA]) 16 (fun _=>rfl) (fun _=>rfl) 251 [.ref 14 0,.cp [T.i i] 0,.ref 15 0] rfl (fun j s t=>(s,chL x i (toL x) j t)) (fun _ _=>True) s.unl (by omega)
  (fun j _ t ht _=>zjX x i j t hi (hC j (qab.1 ht).1) hcl hll) (fun _ _ _ _ _=>trivial) () trivial
 rw[zeI]at c1
 simp only[qaO]at c1
 have c2:=zcb (s.unl.mapIdx (chL x i (toL x))) e (by rw[qa2];exact hu)
 have hle:zbl x i s (toL x) e=zdn (s.unl.mapIdx (chL x i (toL x))) e:=rfl
 rw[hle]
 have e0:(fun j x_1=>chL x i (toL x) j x_1)=chL x i (toL x):=rfl
 rw[e0]at c1
 generalize s.unl.mapIdx (chL x i (toL x))=cl at*
 generalize zdn cl e=r at*
 rw[za8]
 unfold exC at*
 refine so Tryz.func192 ?_
 repeat' (first|refine wkt ?_|refine zqy ?_|refine zqx ?_|(apply TO.zjG 16 c1;(iterate 3 exact rfl);exact zqb;(iterate 7 exact rfl))|refine wv c2 ?_|refine wk ?_|fail)
 refine RetK.keep 14 rfl (?_:Le _ (.t (.ag (exC r)))) rfl rfl rfl rfl rfl ⟨rfl,rfl⟩
 exact Le.tree rfl (TLe.refl _)
abbrev thB:Blk:=.cells [.fn 195 []]
set_option maxHeartbeats 8000000 in
theorem zjY (x:KS) (i j:Nat) (t:Tran) (hi:i≤1000000) (hC:∃l,x.cs[i]?=some l/\l[j]?=some (zbf x i j)) (hcl:x.cs.length≤1000000) (hll:∀l∈x.cs,l.length≤1000000):Sound Tryz.prog 251 [.i j,.t (zah t),.ref 14 0,.cp [T.i i] 0,.ref 15 0] (x.G++[kx,thB])
  (fun r H'=>r= .ret (.t (chT (chL x i (rsL x) j t)))/\H'=x.G++[kx,thB]):=by
 obtain⟨l,hl1,hl2⟩:=hC
 have c1:=zdD x.a x.es x.c (x.L.map zaa) x.Q x.k x.was i
 have ho:=zpe x x.was i (by omega)
 have c2:=zbR (zbf x i j) (onL x x.was i)
 rw[ho]at c2
 have c3:=znk x t
 have hx:(x.cs.map fun l=>T.sl 1 (l.map T.s))[i]?=some (T.sl 1 (l.map T.s)):=by rw[qau,hl1];rfl
 have hy:(l.map T.s)[j]?=some (T.s (zbf x i j)):=by rw[qau,hl2];rfl
 have hil:=(qab.1 hl1).1
 have hjl:=(qab.1 hl2).1
 have hlm:=hll l (qat hl1)
 have hm1:(x.cs.map fun l=>T.sl 1 (l.map T.s)).length=x.cs.length:=qaa _
 have hm2:(l.map T.s).length=l.length:=qaa _
 have hch:chL x i (rsL x) j t=(smE (zbf x i j) (onL x x.was i),rsL x t):=rfl
 rw[hch]
 generalize smE (zbf x i j) (onL x x.was i)=e1 at*
 generalize rsL x t=e2 at*
 generalize zbf x i j=nm at*
 unfold zah at*
 refine so Tryz.func251 ?_
 repeat' (first|refine wkt ?_|refine zqx ?_|fail)
 apply TR.zaw 0 (g:=True) [(_,0,0),(_,0,0),(_,0,0),(_,0,0),(_,0,0),(_,0,0),(_,0,0),(_,0,0),(_,0,0),(_,0,0),(_,0,0),(_,0,0),(_,0,0),(_,0,0),(_,0,0),(_,0,0),(_,0,0),(_,0,0),(_,0,0),(_,0,0),(_,0,0),(_,0,0),(.any,1,0)] [x.G++[kx,thB,.cells [.i 0,.i 0,.i 0,.i 0,.s [],.t (.v (.slice none 0 0)),.i 0,.i 0,.i 0,.i 0,.s [],.t (.v (.slice none 0 0))]],x.G++[kx,thB,.cells ([.t (T.n (e1).kind),.t (T.n (e1).op),.t (T.n (e1).t),.t (T.n (e1).v),.t (.s (e1).name),.t (.sl 6 ((e1).args.map exT))]++[.t (T.n (e2).kind),.t (T.n (e2).op),.t (T.n (e2).t),.t (T.n (e2).v),.t (.s (e2).name),.t (.sl 6 ((e2).args.map exT))])]] hmix
 case hB=>exact zqv
 case h0=>exact rfl
 case hp=>
  repeat' (first|exact trivial|exact⟨⟨rfl,rfl⟩,trivial⟩|exact qaf rfl rfl|refine qaf (fun env=>?_) ?_|refine qaf ?_ ?_|refine wma ?_|(apply TO.indexAddr zag;(iterate 8 exact rfl);omega;exact hx)|(apply TO.indexAddr zag;(iterate 8 exact rfl);omega;exact hy)|(apply TO.zaE 13 c1;(iterate 3 exact rfl);exact zqb;(iterate 8 exact rfl))|refine wmv c2 ?_|refine wmv c3 ?_|refine wmk ?_|fail)
  done
 case hc=>exact rfl
 case hF=>exact rfl
 case hE=>exact rfl
 intro _
 repeat' (first|refine wkt ?_|refine wk ?_|fail)
 refine RetK.keep 16 rfl (?_:Le _ (.t (chT (e1,e2)))) rfl rfl rfl rfl rfl ⟨rfl,rfl⟩
 exact Le.tree rfl (TLe.refl _)
set_option maxHeartbeats 8000000 in
theorem zlk (x:KS) (i:Nat) (s:Sta) (hi:i≤1000000) (hu:s.unl.length≤1000000) (hC:∀j,j<s.unl.length->∃l,x.cs[i]?=some l/\l[j]?=some (zbf x i j)) (hcl:x.cs.length≤1000000) (hll:∀l∈x.cs,l.length≤1000000) (e:Ex):
  Sound Tryz.prog 192 [.ref 8 0,.i i,.t (staT s),.fn 195 [],.t (.ag (exC e))] x.G (fun r H'=>r= .ret (.t (.ag (exC (zbl x i s (rsL x) e))))/\H'=x.G):=by
 have c1:=zhV (fun _:Unit=>x.G++[kx,thB]) 16 (fun _=>rfl) (fun _=>rfl) 251 [.ref 14 0,.cp [T.i i] 0,.ref 15 0] rfl (fun j s t=>(s,chL x i (rsL x) j t)) (fun _ _=>True) s.unl (by omega)
  (fun j _ t ht _=>zjY x i j t hi (hC j (qab.1 ht).1) hcl hll) (fun _ _ _ _ _=>trivial) () trivial
 rw[zeI]at c1
 simp only[qaO]at c1
 have c2:=zcb (s.unl.mapIdx (chL x i (rsL x))) e (by rw[qa2];exact hu)
 have hle:zbl x i s (rsL x) e=zdn (s.unl.mapIdx (chL x i (rsL x))) e:=rfl
 rw[hle]
 have e0:(fun j x_1=>chL x i (rsL x) j x_1)=chL x i (rsL x):=rfl
 rw[e0]at c1
 generalize s.unl.mapIdx (chL x i (rsL x))=cl at*
 generalize zdn cl e=r at*
 rw[za8]
 unfold exC at*
 refine so Tryz.func192 ?_
 repeat' (first|refine wkt ?_|refine zqy ?_|refine zqx ?_|(apply TO.zjG 16 c1;(iterate 3 exact rfl);exact zqb;(iterate 7 exact rfl))|refine wv c2 ?_|refine wk ?_|fail)
 refine RetK.keep 14 rfl (?_:Le _ (.t (.ag (exC r)))) rfl rfl rfl rfl rfl ⟨rfl,rfl⟩
 exact Le.tree rfl (TLe.refl _)
end Go.Proofs.YtpnnpgbaiobbjaaGreatDoor
namespace Go.TL
open Go
section rules
variable {P:Program}{n:Nat}{env:Env}{H:Heap}{K:TK}{c:Code}
theorem TR.own(i:Nat){sz id:Nat}{es:List T}(hi:env.look i=some (.sl sz es id))(k:TR P n c ((i,.t (.sl sz es))::env) H K):TR P n c env H K:=by
 intro φ m a h1 h2 h3 h4
 refine k φ m a h1 h2 ⟨h3.1,fun j w hw=>?_⟩ h4
 by_cases hj:i=j
 ·subst hj
  rw[Env.zan]at hw
  cases hw
  obtain⟨x,x1,x2⟩:=h3.2 i _ hi
  exact⟨x,x1,Le.own _ _ _ m x x2⟩
 ·rw[Env.zak _ _ hj]at hw
  exact h3.2 j w hw
end rules
end Go.TL
namespace Go.Proofs.YtpnnpgbaiobbjaaGreatDoor
open Go Go.TL
attribute [local irreducible] TR TO Then zao RetK Sound zab Kf GG zaZ
theorem zgC(t:I64)(i:Nat)(hi:i≤1000000000):Pure Tryz.prog 183 [.n t,.i (i:Int)] (.t (.ag (exC (cnE t (toI i))))):=by
 have:=zaT t (toI i)
 rw[show SV.n (toI i)=SV.i (toI i).1 from rfl,zkm hi]at this
 exact this
theorem zdZ(x:KS)(nm:Str)(fid:FuncId)(caps:List SV)(hcu:unders 14 caps=true)(e:Nat->Sta->Ex)(hl:x.sts.length≤1000000)
  (hc:∀(i:Nat) s,x.sts[i]?=some s->Sound Tryz.prog fid (.i (i:Int):: .t (staT s)::caps) x.G (fun r H'=>r= .ret (.t (exT (e i s)))/\H'=x.G)):
  Sound Tryz.prog 190 [.ref 8 0,.s nm,.fn fid caps] x.G (fun r H'=>r= .ret (.t (.ag (exC (mrgE nm x.t (x.sts.mapIdx e)))))/\H'=x.G):=by
 have c1:=zmS (fun _:Unit=>x.G) 14 (fun _=>rfl) (fun _=>rfl) fid caps hcu (fun j s t=>(s,e j t)) (fun _ _=>True) x.sts (by omega) (fun j _ t ht _=>hc j t ht) (fun _ _ _ _ _=>trivial) () trivial
 rw[zeI]at c1
 simp only[qaO]at c1
 rw[show(fun j x_1=>e j x_1)=e from rfl]at c1
 have hu:unders 14 [.t (.sl 6 (x.sts.map staT)),.fn fid caps]=true:=by simp[unders,SV.under,hcu]
 have hr:exC (mrgE nm x.t (x.sts.mapIdx e))=[T.n (i64 9),T.n z64,T.n x.t,T.n z64,.s nm,.sl 6 ((x.sts.mapIdx e).map exT)]:=rfl
 rw[hr]
 generalize (x.sts.mapIdx e).map exT=z at*
 clear hc
 refine so Tryz.func190 ?_
 repeat' (first|refine wkt ?_|refine zqx ?_|fail)
 apply TR.zaw 0 (g:=True) [(_,0,1),(_,0,1),(_,0,1),(_,0,1),(_,0,1),(_,0,0),(_,0,0),(_,0,0),(_,0,0),(_,0,0),(_,0,0),(_,1,0),(_,1,1),(.any,1,0)] [x.G++[.cells [.i 0,.i 0,.i 0,.i 0,.s [],.t (.v (.slice none 0 0))]],x.G++[.cells [.i 0,.i 0,.i 0,.i 0,.s [],.t (.v (.slice none 0 0))],.tail x.sts.length],x.G++[.cells [.t (T.n (i64 9)),.t (T.n z64),.t (T.n x.t),.t (T.n z64),.s nm,.t (.sl 6 z)],.tail x.sts.length]] hmix
 case hB=>exact zqv
 case h0=>exact rfl
 case hp=>
  repeat' (first|exact trivial|exact⟨⟨rfl,rfl⟩,trivial⟩|exact qaf rfl rfl|refine qaf (fun env=>?_) ?_|refine qaf ?_ ?_|refine wma ?_|(apply TO.zjG 14 c1;(iterate 3 exact rfl);exact Les.refl _;exact rfl;exact rfl;exact hu;(iterate 4 exact rfl))|refine wmk ?_|fail)
  done
 case hc=>exact rfl
 case hF=>exact rfl
 case hE=>exact rfl
 intro _
 repeat' (first|refine wkt ?_|refine wk ?_|fail)
 refine RetK.keep 14 rfl (?_:Le _ (.t (.ag [T.n (i64 9),T.n z64,T.n x.t,T.n z64,.s nm,.sl 6 z]))) rfl rfl rfl rfl rfl ⟨rfl,rfl⟩
 exact Le.tree rfl (TLe.refl _)
theorem zmu(x:KS)(i:Nat)(s:Sta)(hi:i≤1000000)(hu:s.unl.length≤1000000)(hC:∀j,j<s.unl.length->∃l,x.cs[i]?=some l/\l[j]?=some (zbf x i j))(hcl:x.cs.length≤1000000)(hll:∀l∈x.cs,l.length≤1000000):
  Sound Tryz.prog 191 [.i i,.t (staT s),.ref 13 0] x.G (fun r H'=>r= .ret (.t (exT (zbl x i s (toL x) (cnE x.t (toI i)))))/\H'=x.G):=by
 have c1:=zgC x.t i (by omega)
 have c2:=zlj x i s hi hu hC hcl hll (cnE x.t (toI i))
 rw[zay]
 generalize zbl x i s (toL x) (cnE x.t (toI i))=r at*
 generalize cnE x.t (toI i)=e at*
 rw[za8]at*
 unfold exC at*
 refine so Tryz.func191 ?_
 repeat' (first|refine wkt ?_|refine zqx ?_|fail)
 apply TR.zaw 0 (g:=True) [(_,0,0),(_,0,0),(_,0,0),(_,0,0),(_,0,0),(_,0,0),(_,0,0),(_,0,0),(_,0,0),(_,0,0),(_,0,0),(.any,1,0)] [x.G++[.cells [.i 0,.i 0,.i 0,.i 0,.s [],.t (.v (.slice none 0 0))]],x.G++[.cells [.t (T.n (r).kind),.t (T.n (r).op),.t (T.n (r).t),.t (T.n (r).v),.t (.s (r).name),.t (.sl 6 ((r).args.map exT))]]] hmix
 case hB=>exact zqv
 case h0=>exact rfl
 case hp=>
  repeat' (first|exact trivial|exact⟨⟨rfl,rfl⟩,trivial⟩|exact qaf rfl rfl|refine qaf (fun env=>?_) ?_|refine qaf ?_ ?_|refine wma ?_|refine wmv c1 ?_|(apply TO.zaE 14 c2;(iterate 3 exact rfl);exact zqb;(iterate 8 exact rfl))|refine wmk ?_|fail)
  done
 case hc=>exact rfl
 case hF=>exact rfl
 case hE=>exact rfl
 intro _
 repeat' (first|refine wkt ?_|refine wk ?_|fail)
 refine RetK.keep 14 rfl (?_:Le _ (.t (.ag (exC (r))))) rfl rfl rfl rfl rfl ⟨rfl,rfl⟩
 exact Le.tree rfl (TLe.refl _)
theorem zmv(x:KS)(i:Nat)(s:Sta)(hi:i≤1000000)(hu:s.unl.length≤1000000)(hC:∀j,j<s.unl.length->∃l,x.cs[i]?=some l/\l[j]?=some (zbf x i j))(hcl:x.cs.length≤1000000)(hll:∀l∈x.cs,l.length≤1000000):
  Sound Tryz.prog 194 [.i i,.t (staT s),.ref 13 0] x.G (fun r H'=>r= .ret (.t (exT (zbl x i s (rsL x) (smE x.flag (onL x x.was i)))))/\H'=x.G):=by
 have c0:=zdD x.a x.es x.c (x.L.map zaa) x.Q x.k x.was i
 have ho:=zpe x x.was i (by omega)
 have c1:=zbR x.flag (onL x x.was i)
 rw[ho]at c1
 have c2:=zlk x i s hi hu hC hcl hll (smE x.flag (onL x x.was i))
 rw[zay]
 generalize zbl x i s (rsL x) (smE x.flag (onL x x.was i))=r at*
 generalize smE x.flag (onL x x.was i)=e at*
 rw[za8]at*
 unfold exC at*
 refine so Tryz.func194 ?_
 repeat' (first|refine wkt ?_|refine zqx ?_|fail)
 apply TR.zaw 0 (g:=True) [(_,0,0),(_,0,0),(_,0,0),(_,0,0),(_,0,0),(_,0,0),(_,0,0),(_,0,0),(_,0,0),(_,0,0),(_,0,0),(_,0,0),(_,0,0),(_,0,0),(_,0,0),(_,0,0),(.any,1,0)] [x.G++[.cells [.i 0,.i 0,.i 0,.i 0,.s [],.t (.v (.slice none 0 0))]],x.G++[.cells [.t (T.n (r).kind),.t (T.n (r).op),.t (T.n (r).t),.t (T.n (r).v),.t (.s (r).name),.t (.sl 6 ((r).args.map exT))]]] hmix
 case hB=>exact zqv
 case h0=>exact rfl
 case hp=>
  repeat' (first|exact trivial|exact⟨⟨rfl,rfl⟩,trivial⟩|exact qaf rfl rfl|refine qaf (fun env=>?_) ?_|refine qaf ?_ ?_|refine wma ?_|(apply TO.zaE 13 c0;(iterate 3 exact rfl);exact zqb;(iterate 8 exact rfl))|refine wmv c1 ?_|(apply TO.zaE 14 c2;(iterate 3 exact rfl);exact zqb;(iterate 8 exact rfl))|refine wmk ?_|fail)
  done
 case hc=>exact rfl
 case hF=>exact rfl
 case hE=>exact rfl
 intro _
 repeat' (first|refine wkt ?_|refine wk ?_|fail)
 refine RetK.keep 14 rfl (?_:Le _ (.t (.ag (exC (r))))) rfl rfl rfl rfl rfl ⟨rfl,rfl⟩
 exact Le.tree rfl (TLe.refl _)
theorem zmw(x:KS)(i j:Nat)(d:Decl)(hi:i≤1000000):Sound Tryz.prog 198 [.i j,.t (zaa d),.ref 13 0,.ref 14 0] (x.G++[.cells [.i i]]) (fun r H'=>r= .ret (.t (exT (smE d.name (onL x x.now i))))/\H'=x.G++[.cells [.i i]]):=by
 have c0:=zdD x.a x.es x.c (x.L.map zaa) x.Q x.k x.now i
 have ho:=zpe x x.now i (by omega)
 have c1:=zbR d.name (onL x x.now i)
 rw[ho]at c1
 rw[zay]
 generalize smE d.name (onL x x.now i)=r at*
 unfold zaa exC at*
 refine so Tryz.func198 ?_
 repeat' (first|refine wkt ?_|refine zqx ?_|fail)
 apply TR.zaw 0 (g:=True) [(_,0,0),(_,0,0),(_,0,0),(_,0,0),(_,0,0),(_,0,0),(_,0,0),(_,0,0),(_,0,0),(_,0,0),(.any,1,0)] [x.G++[.cells [.i i],.cells [.i 0,.i 0,.i 0,.i 0,.s [],.t (.v (.slice none 0 0))]],x.G++[.cells [.i i],.cells [.t (T.n (r).kind),.t (T.n (r).op),.t (T.n (r).t),.t (T.n (r).v),.t (.s (r).name),.t (.sl 6 ((r).args.map exT))]]] hmix
 case hB=>exact zqv
 case h0=>exact rfl
 case hp=>
  repeat' (first|exact trivial|exact⟨⟨rfl,rfl⟩,trivial⟩|exact qaf rfl rfl|refine qaf (fun env=>?_) ?_|refine qaf ?_ ?_|refine wma ?_|(apply TO.zaE 13 c0;(iterate 3 exact rfl);exact zqb;(iterate 8 exact rfl))|refine wmv c1 ?_|refine wmk ?_|fail)
  done
 case hc=>exact rfl
 case hF=>exact rfl
 case hE=>exact rfl
 intro _
 repeat' (first|refine wkt ?_|refine wk ?_|fail)
 refine RetK.keep 15 rfl (?_:Le _ (.t (.ag (exC (r))))) rfl rfl rfl rfl rfl ⟨rfl,rfl⟩
 exact Le.tree rfl (TLe.refl _)
theorem zmx(j:Nat)(d:Decl):Pure Tryz.prog 199 [.i j,.t (zaa d)] (.t (T.s d.name)):=by
 unfold zaa
 refine so Tryz.func199 ?_
 repeat' (first|refine wu ?_|exact wkc|intro hc|refine wk2 ?_ ?_|fail)
 exact wkr
def partAt(x:KS)(i j:Nat):Str:=(x.parts[i]?.bind (·[j]?)).getD []
theorem zmy(x:KS)(i j:Nat)(s:Sta)(hC:∃l,x.parts[i]?=some l/\l[j]?=some (partAt x i j))(hcl:x.parts.length≤1000000)(hll:∀l∈x.parts,l.length≤1000000):Sound Tryz.prog 200 [.i i,.t (staT s),.ref 13 0,.cp [T.i j] 0] x.G (fun r H'=>r= .ret (.t (exT (vrE (partAt x i j))))/\H'=x.G):=by
 obtain⟨l,hl1,hl2⟩:=hC
 have hx:(x.parts.map fun l=>T.sl 1 (l.map T.s))[i]?=some (T.sl 1 (l.map T.s)):=by rw[qau,hl1];rfl
 have hy:(l.map T.s)[j]?=some (T.s (partAt x i j)):=by rw[qau,hl2];rfl
 have hil:=(qab.1 hl1).1
 have hjl:=(qab.1 hl2).1
 have hlm:=hll l (qat hl1)
 have hm1:(x.parts.map fun l=>T.sl 1 (l.map T.s)).length=x.parts.length:=qaa _
 have hm2:(l.map T.s).length=l.length:=qaa _
 have c1:=zbI (partAt x i j)
 rw[zay]
 generalize vrE (partAt x i j)=r at*
 generalize partAt x i j=nm at*
 rw[za8]
 unfold exC at*
 refine so Tryz.func200 ?_
 repeat' (first|refine wkt ?_|refine zqx ?_|fail)
 apply TR.zaw 0 (g:=True) [(_,0,0),(_,0,0),(_,0,0),(_,0,0),(_,0,0),(_,0,0),(_,0,0),(_,0,0),(_,0,0),(_,0,0),(_,0,0),(.any,1,0)] [x.G++[.cells [.i 0,.i 0,.i 0,.i 0,.s [],.t (.v (.slice none 0 0))]],x.G++[.cells [.t (T.n (r).kind),.t (T.n (r).op),.t (T.n (r).t),.t (T.n (r).v),.t (.s (r).name),.t (.sl 6 ((r).args.map exT))]]] hmix
 case hB=>exact zqv
 case h0=>exact rfl
 case hp=>
  repeat' (first|exact trivial|exact⟨⟨rfl,rfl⟩,trivial⟩|exact qaf rfl rfl|refine qaf (fun env=>?_) ?_|refine qaf ?_ ?_|refine wma ?_|(apply TO.indexAddr zag;(iterate 8 exact rfl);omega;exact hx)|(apply TO.indexAddr zag;(iterate 8 exact rfl);omega;exact hy)|refine wmv c1 ?_|refine wmk ?_|fail)
  done
 case hc=>exact rfl
 case hF=>exact rfl
 case hE=>exact rfl
 intro _
 repeat' (first|refine wkt ?_|refine wk ?_|fail)
 refine RetK.keep 14 rfl (?_:Le _ (.t (.ag (exC (r))))) rfl rfl rfl rfl rfl ⟨rfl,rfl⟩
 exact Le.tree rfl (TLe.refl _)
end Go.Proofs.YtpnnpgbaiobbjaaGreatDoor
namespace Go.TL
open Go
section rules
variable {P:Program}{all:Array Oper}
theorem TR.zhc(w:List Nat)(c:Nat){g:Prop}{n:Nat}{env0 envF:Env}{H0 HF:Heap}{K:TK}{id':Nat}{l:List Oper}(t:List (SV×Nat×Nat))(hs:List Heap)(hm:P.follows .mixedOrders=true)(hw:w.all (fun t=>(env0.look t).isSome)=true)
  (hB:(mixW w l.toArray ((t.map (·.2)).map fun x=>Nat.blt x.2 x.1) && ztS l.toArray (t.map (·.2)) hs.length)=true)(h0:hs[0]?=some H0)
  (hp:zjC P n K c g l.toArray (zas env0 w++za9 l.toArray (t.map (·.1)) env0) hs 0 l t hs)(hc:Nat.blt c l.length=true)(hF:hs[(t.filter efX).length]?=some HF)(hE:zbx (za9 l.toArray (t.map (·.1)) env0)=some envF)(hK:g->K .normal envF HF):
  TR P n (.region id' l.toArray true) env0 H0 K:=by
 obtain⟨g1,g2⟩:=hp.get
 rw[qaz]at hB
 obtain⟨hB,hR⟩:=hB
 have hfl:(t.map (·.2)).map (fun x=>Nat.blt x.2 x.1)=t.map efX:=by rw[qbp];rfl
 rw[hfl]at hB
 intro φ m a h1 h2 h3 h4
 have hef:∀i,((t.map efX).take i |>.filter id).length=effX t i:=by
  exact zweu
 have hall:((t.map efX).filter id).length=(t.filter efX).length:=by
  rw[qcl,qaa];rfl
 have s0:Step m ⟨m.A,m.β,m.H,{ m.w with drawn:=m.w.drawn+1 }⟩/\HRel ⟨m.A,m.β,m.H,{ m.w with drawn:=m.w.drawn+1 }⟩:=zcT h2 ⟨rfl,rfl,rfl,qag _,fun _ _=>rfl⟩
 refine zbp (wpIn_region_any hm ?_)
 refine zg1 w (G:=fun i=>atG c g (0+i)) (vs:=t.map (·.1)) (fl:=t.map efX) (hs:=hs) (m0:=m) (fun t ht=>qaB.1 hw t (by simpa using ht)) hB (by simp[g1]) (by simp[g1]) ?_ ?_ (by rw[hall];exact hF) (fun hG=>by
   rw[zaV hE]at hK
   have:=hG c (by have:=qai hc;simp;omega)
   unfold atG at this
   rw[qaO,show Nat.beq c c=true from qbr c]at this
   exact hK this) l.toArray.size (Array.replicate l.toArray.size false)
  ⟨m.A,m.β,m.H,{ m.w with drawn:=m.w.drawn+1 }⟩ a (by simp) ?_ ?_ ?_ s0.1 s0.2 ?_ (h4.step h2 s0.1)
 ·exact zwd
 ·exact zwba
 ·exact zwfe
 ·exact zwci
 ·exact zwbz
 ·exact zwh
end rules
end Go.TL
namespace Go.Proofs.YtpnnpgbaiobbjaaGreatDoor
open Go Go.TL
attribute [local irreducible] TR TO Then zao RetK Sound zab Kf GG zaZ
abbrev KS.q (x:KS)(Q:List T):KS:={ x with Q:=Q }
def fbyE(a b:Ex):Ex:=.mk (i64 7) z64 z64 z64 [] [a,b]
def calE(nm:Str)(l:List Ex):Ex:=.mk (i64 10) z64 z64 (i64 1) nm l
theorem fbyC(a b:Ex):exC (fbyE a b)=[T.n (i64 7),T.n z64,T.n z64,T.n z64,.s [],.sl 6 [.ag (exC a),.ag (exC b)]]:=by rw[<-zay,<-zay];rfl
theorem zfL{α β:Type}(f:Nat->α->β){l:List α}{j:Nat}(h:j<l.length):(l.take (j+1)).mapIdx f=(l.take j).mapIdx f++[f j l[j]]:=by
 rw[zb0 h,List.mapIdx_append]
 have e:(l.take j).length=j:=by rw[qaV];omega
 rw[e]
 simp
def eqU(x:KS)(i:Nat)(s:Sta):List Equ:=s.unl.mapIdx fun j t=>⟨[zbf x i j],t.cond⟩
def eqB(x:KS)(i:Nat)(b:Nod):Equ:=⟨(x.parts[i]?).getD [],calE b.name ((b.ins.map fun d=>smE d.name (onL x x.now i))++[smE x.reset (onL x x.now i)])⟩
def eqL(x:KS)(j:Nat)(left:Str):Equ:=⟨[left],mrgE x.now x.t (x.sts.mapIdx fun i _=>vrE (partAt x i j))⟩
def zjL(x:KS):List Equ:=[⟨[x.was],fbyE (cnE x.t z64) (vrE x.next)⟩,⟨[x.flag],fbyE (cnE bT z64) (vrE x.back)⟩]
def zmt(x:KS):List Equ:=[⟨[x.now],mrgE x.was x.t (x.sts.mapIdx fun i s=>zbl x i s (toL x) (cnE x.t (toI i)))⟩,⟨[x.reset],mrgE x.was x.t (x.sts.mapIdx fun i s=>zbl x i s (rsL x) (smE x.flag (onL x x.was i)))⟩]
def lefts(x:KS):List Str:=x.defs.map Decl.name++[x.next,x.back]
def zfv(x:KS):List Equ:=zjL x++(x.sts.mapIdx (eqU x)).flatten++zmt x++x.bodies.mapIdx (eqB x)++(lefts x).mapIdx (eqL x)
structure KOk (x:KS):Prop where
 sts:x.sts.length≤8
 unl:∀s∈x.sts,s.unl.length≤4
 cnd:∀i s,x.sts[i]?=some s->∀j,j<s.unl.length->∃l,x.cs[i]?=some l/\l[j]?=some (zbf x i j)
 csl:x.cs.length≤1000000
 csm:∀l∈x.cs,l.length≤1000000
 prt:∀i,i<x.sts.length->∀j,j<(lefts x).length->∃l,x.parts[i]?=some l/\l[j]?=some (partAt x i j)
 prl:x.parts.length≤1000000
 prm:∀l∈x.parts,l.length≤1000000
 bod:x.bodies.length=x.sts.length/\x.parts.length=x.sts.length
 ins:∀b∈x.bodies,b.ins.length≤1000000
 defs:x.defs.length≤1000000
set_option maxHeartbeats 16000000 in
theorem zgS (x:KS) (h:KOk x) (hQ:x.Q.length≤100000000):Sound Tryz.prog 121 [.ref 8 0] x.H (fun r H'=>r= .ret (.tup [])/\H'=(x.q (x.Q++(zfv x).map equT)).H):=by
 have hml:(x.sts.map staT).length=x.sts.length:=qaa _
 have hmb:(x.bodies.map nodT).length=x.bodies.length:=qaa _
 have hst:=h.sts
 have e1:=za5 x.a x.es x.c (x.L.map zaa) x.Q x.k (by omega) (fbyE (cnE x.t z64) (vrE x.next)) [T.s x.was]
 have a1:=zaT x.t z64
 have a2:=zbI x.next
 rw[fbyC]at e1
 refine so Tryz.func121 ?_
 repeat' (first|refine wkt ?_|refine zqy ?_|fail)
 apply TR.zaw 0 (g:=True) [(_,0,0),(_,0,0),(_,0,0),(_,0,0),(_,0,0),(_,0,0),(_,0,0),(_,0,0),(_,0,0),(_,0,0),(_,0,0),(_,0,0),(_,0,0),(_,0,0),(_,0,0),(_,0,0),(_,0,0),(_,0,0),(_,1,0)] [x.G,(x.q (x.Q++[.ag (.sl 1 [T.s x.was]::[T.n (i64 7),T.n z64,T.n z64,T.n z64,.s [],.sl 6 [.ag (exC (cnE x.t z64)),.ag (exC (vrE x.next))]])])).G] hmix
 case hB=>exact zqv
 case h0=>exact rfl
 case hp=>
  repeat' (first|exact trivial|exact⟨⟨rfl,rfl⟩,trivial⟩|exact qaf rfl rfl|refine qaf (fun env=>?_) ?_|refine qaf ?_ ?_|refine wma ?_|refine wmv a1 ?_|refine wmv a2 ?_|(apply TO.zaE 13 e1;(iterate 3 exact rfl);exact zqb;(iterate 8 exact rfl))|refine wmk ?_|fail)
  done
 case hc=>exact rfl
 case hF=>exact rfl
 case hE=>exact rfl
 intro _
 rw[<-fbyC]
 rw[show(T.ag (.sl 1 [T.s x.was]::exC (fbyE (cnE x.t z64) (vrE x.next))))=equT ⟨[x.was],fbyE (cnE x.t z64) (vrE x.next)⟩ from rfl]
 obtain⟨Q1,hQ1⟩:∃Q1:List T,Q1=x.Q++[equT ⟨[x.was],fbyE (cnE x.t z64) (vrE x.next)⟩]:=⟨_,rfl⟩
 rw[<-hQ1]
 have hl1:Q1.length=x.Q.length+1:=by rw[hQ1];simp
 clear e1 a1 a2
 have e2:=za5 x.a x.es x.c (x.L.map zaa) Q1 x.k (by omega) (fbyE (cnE bT z64) (vrE x.back)) [T.s x.flag]
 have a3:=zaT bT z64
 have a4:=zbI x.back
 rw[fbyC]at e2
 repeat' (first|refine wkt ?_|fail)
 apply TR.zaw 0 (g:=True) [(_,0,0),(_,0,0),(_,0,0),(_,0,0),(_,0,0),(_,0,0),(_,0,0),(_,0,0),(_,0,0),(_,0,0),(_,0,0),(_,0,0),(_,0,0),(_,0,0),(_,1,0)] [(x.q Q1).G,(x.q (Q1++[.ag (.sl 1 [T.s x.flag]::[T.n (i64 7),T.n z64,T.n z64,T.n z64,.s [],.sl 6 [.ag (exC (cnE bT z64)),.ag (exC (vrE x.back))]])])).G] hmix
 case hB=>exact zqv
 case h0=>exact rfl
 case hp=>
  repeat' (first|exact trivial|exact⟨⟨rfl,rfl⟩,trivial⟩|exact qaf rfl rfl|refine qaf (fun env=>?_) ?_|refine qaf ?_ ?_|refine wma ?_|refine wmv a3 ?_|refine wmv a4 ?_|(apply TO.zaE 13 e2;(iterate 3 exact rfl);exact zqb;(iterate 8 exact rfl))|refine wmk ?_|fail)
  done
 case hc=>exact rfl
 case hF=>exact rfl
 case hE=>exact rfl
 intro _
 rw[<-fbyC]
 rw[show(T.ag (.sl 1 [T.s x.flag]::exC (fbyE (cnE bT z64) (vrE x.back))))=equT ⟨[x.flag],fbyE (cnE bT z64) (vrE x.back)⟩ from rfl]
 obtain⟨Q2,hQ2⟩:∃Q2:List T,Q2=Q1++[equT ⟨[x.flag],fbyE (cnE bT z64) (vrE x.back)⟩]:=⟨_,rfl⟩
 rw[<-hQ2]
 have hl2:Q2.length=x.Q.length+2:=by rw[hQ2,qae,hl1];rfl
 have hq2:Q2=x.Q++(zjL x).map equT:=by rw[hQ2,hQ1];simp[zjL]
 clear e2 a3 a4 hQ2 hQ1 hl1
 repeat' (first|refine wkt ?_|refine zab.exit ?_|exact wkc|intro hc|refine wk2 ?_ ?_|fail)
 obtain⟨RQ,hRQ⟩:∃RQ:Nat->List T,RQ=fun i=>Q2++(((x.sts.take i).mapIdx (eqU x)).flatten.map equT):=⟨_,rfl⟩
 have hRl:∀i,i≤x.sts.length->(RQ i).length≤Q2.length+4*i:=fun i=>by
  induction i with
  | zero=>intro _;rw[hRQ];simp
  | succ i ih=>
    intro hi
    have h1:=ih (by omega)
    have h2:=h.unl _ (qad (show i<x.sts.length by omega))
    rw[hRQ]at h1⊢
    dsimp only at h1⊢
    rw[zfL _ (by omega),qbz,qal]
    simp only[qae,qaa,qa9,qcc,qaQ,eqU,qa2]at h1⊢
    omega
 have hR0:RQ 0=Q2:=by rw[hRQ];simp
 refine TR.zal x.sts.length (fun _=>True) (fun i=>[(1,.ref 13 0),(50,.t (.sl 6 (x.sts.map staT))),(51,.i x.sts.length),(52,.i i)]) (fun i=>(x.q (RQ i)).G) trivial (fun i hlt _=>?_) (fun _=>?_) ⟨rfl,rfl,by rw[<-hml];rfl,rfl,trivial⟩ (by(try dsimp only);rw[hR0])
 ·have hx:=zar staT hlt
  rw[za8]at hx
  have hn:RQ (i+1)=RQ i++(eqU x i x.sts[i]).map equT:=by
   rw[hRQ]
   dsimp only
   rw[zfL _ hlt,qbz,qal,qa8]
   simp
  have hul:=h.unl _ (qad hlt)
  have hC:=h.cnd i _ (qac hlt)
  have hQi:=hRl i (by omega)
  generalize RQ i=Qi at*
  generalize x.sts[i]=s at*
  have hmu:(s.unl.map zah).length=s.unl.length:=qaa _
  obtain⟨SQ,hSQ⟩:∃SQ:Nat->List T,SQ=fun j=>Qi++((s.unl.take j).mapIdx fun j t=>(⟨[zbf x i j],t.cond⟩:Equ)).map equT:=⟨_,rfl⟩
  have hSl:∀j,(SQ j).length≤Qi.length+j:=fun j=>by rw[hSQ];simp only[qae,qaa,qa2,qaV];omega
  have hS0:SQ 0=Qi:=by rw[hSQ];simp
  have hSn:SQ s.unl.length=RQ (i+1):=by rw[hn,hSQ];simp only[qah];rfl
  repeat' (first|refine wkt ?_|refine wkaM ?_|refine zqp ?_|refine zab.exit ?_|exact wkc|intro hc|refine wk2 ?_ ?_|fail)
  refine TR.zal s.unl.length (fun _=>True) (fun j=>[(1,.ref 13 0),(2,.i i),(50,.t (.sl 6 (x.sts.map staT))),(51,.i x.sts.length),(52,.i i),(58,.t (.sl 8 (s.unl.map zah))),(59,.i s.unl.length),(60,.i j)]) (fun j=>(x.q (SQ j)).G) trivial (fun j hlj _=>?_) (fun _=>?_) ⟨rfl,rfl,rfl,rfl,rfl,rfl,by rw[<-hmu];rfl,rfl,trivial⟩ (by(try dsimp only);rw[hS0])
  ·have hy:(s.unl.map zah)[j]?=some (.ag [T.n s.unl[j].cond.kind,T.n s.unl[j].cond.op,T.n s.unl[j].cond.t,T.n s.unl[j].cond.v,.s s.unl[j].cond.name,.sl 6 (s.unl[j].cond.args.map exT),T.n s.unl[j].to,.b s.unl[j].resume]):=zar zah hlj
   have hn2:SQ (j+1)=SQ j++[equT ⟨[zbf x i j],s.unl[j].cond⟩]:=by
    rw[hSQ]
    dsimp only
    rw[zfL _ hlj,qal,qa8]
    rfl
   have hQj:=hSl j
   obtain⟨l,hl1,hl2⟩:=hC j hlj
   have hz:(x.cs.map fun l=>T.sl 1 (l.map T.s))[i]?=some (T.sl 1 (l.map T.s)):=by rw[qau,hl1];rfl
   have hw:(l.map T.s)[j]?=some (T.s (zbf x i j)):=by rw[qau,hl2];rfl
   have hil:=(qab.1 hl1).1
   have hjl:=(qab.1 hl2).1
   have hlm:=h.csm l (qat hl1)
   have hcl:=h.csl
   have hm1:(x.cs.map fun l=>T.sl 1 (l.map T.s)).length=x.cs.length:=qaa _
   have hm2:(l.map T.s).length=l.length:=qaa _
   generalize zbf x i j=nm at*
   generalize SQ j=Qj at*
   have e1:=za5 x.a x.es x.c (x.L.map zaa) Qj x.k (by omega) s.unl[j].cond [T.s nm]
   have heq:(T.ag (.sl 1 [T.s nm]::exC s.unl[j].cond))=equT ⟨[nm],s.unl[j].cond⟩:=rfl
   rw[heq]at e1
   generalize equT ⟨[nm],s.unl[j].cond⟩=eq at*
   unfold exC at e1
   clear heq hC hSl hSQ hRl hRQ hn
   generalize s.unl[j]=t at*
   repeat' (first|refine wkt ?_|refine wkaM ?_|refine zqq ?_|refine zab.exit ?_|exact wkc|intro hc|refine wk2 ?_ ?_|fail)
   apply TR.zaw 0 (g:=True) [(_,0,0),(_,0,0),(_,0,0),(_,0,0),(_,0,0),(_,0,0),(_,0,0),(_,0,0),(_,0,0),(_,0,0),(_,0,0),(_,0,0),(_,0,0),(_,0,0),(_,1,0)] [(x.q Qj).G,(x.q (Qj++[eq])).G] hmix
   case hB=>exact zqv
   case h0=>exact rfl
   case hp=>
    repeat' (first|exact trivial|exact⟨⟨rfl,rfl⟩,trivial⟩|exact qaf rfl rfl|refine qaf (fun env=>?_) ?_|refine qaf ?_ ?_|refine wma ?_|(apply TO.indexAddr zag;(iterate 8 exact rfl);omega;exact hz)|(apply TO.indexAddr zag;(iterate 8 exact rfl);omega;exact hw)|(apply TO.zaE 13 e1;(iterate 3 exact rfl);exact zqb;(iterate 8 exact rfl))|refine wmk ?_|fail)
    done
   case hc=>exact rfl
   case hF=>exact rfl
   case hE=>exact rfl
   intro _
   repeat' (first|refine wkt ?_|refine zab.exit ?_|exact wkc|intro hc|refine wk2 ?_ ?_|refine wk ?_|fail)
   exact zab.zat hlj trivial (by(try dsimp only);exact⟨rfl,rfl,rfl,rfl,rfl,rfl,rfl,rfl,trivial⟩) (by(try dsimp only);rw[hn2])
  ·rw[hSn]
   repeat' (first|refine wkt ?_|refine zab.exit ?_|exact wkc|intro hc|refine wk2 ?_ ?_|refine wk ?_|fail)
   exact zab.zat hlt trivial (by(try dsimp only);exact⟨rfl,rfl,rfl,rfl,trivial⟩) rfl
 have hQ3:=hRl x.sts.length (qag _)
 have hq3:RQ x.sts.length=x.Q++(zjL x++(x.sts.mapIdx (eqU x)).flatten).map equT:=by rw[hRQ,hq2];simp only[qah,qal,qa8]
 clear hRl hRQ hR0
 generalize RQ x.sts.length=Q3 at*
 have e3:=za5 x.a x.es x.c (x.L.map zaa) Q3 x.k (by omega) (mrgE x.was x.t (x.sts.mapIdx fun i s=>zbl x i s (toL x) (cnE x.t (toI i)))) [T.s x.now]
 have m3:=zdZ (x.q Q3) x.was 191 [.ref 13 0] rfl (fun i s=>zbl x i s (toL x) (cnE x.t (toI i))) (by dsimp only;omega)
  (fun i s hs=>zmu (x.q Q3) i s (by have:=(qab.1 hs).1;dsimp only at this;omega) (by have:=h.unl s (qat hs);omega) (h.cnd i s hs) h.csl h.csm)
 dsimp only at m3
 have heq:(T.ag (.sl 1 [T.s x.now]::exC (mrgE x.was x.t (x.sts.mapIdx fun i s=>zbl x i s (toL x) (cnE x.t (toI i))))))=equT ⟨[x.now],mrgE x.was x.t (x.sts.mapIdx fun i s=>zbl x i s (toL x) (cnE x.t (toI i)))⟩:=rfl
 rw[heq]at e3
 obtain⟨q3,hq3'⟩:∃q3:Equ,q3=⟨[x.now],mrgE x.was x.t (x.sts.mapIdx fun i s=>zbl x i s (toL x) (cnE x.t (toI i)))⟩:=⟨_,rfl⟩
 rw[<-hq3']at e3
 clear heq
 generalize hM3:mrgE x.was x.t (x.sts.mapIdx fun i s=>zbl x i s (toL x) (cnE x.t (toI i)))=M3 at*
 repeat' (first|refine wkt ?_|refine zab.exit ?_|exact wkc|intro hc|refine wk2 ?_ ?_|fail)
 apply TR.zaw 0 (g:=True) [(_,0,0),(_,0,0),(_,0,0),(_,0,0),(_,0,0),(_,0,0),(_,0,0),(_,0,0),(_,0,0),(_,0,0),(_,0,0),(_,0,0),(_,0,0),(_,1,0)] [(x.q Q3).G,(x.q (Q3++[equT q3])).G] hmix
 case hB=>exact zqv
 case h0=>exact rfl
 case hp=>
  repeat' (first|exact trivial|exact⟨⟨rfl,rfl⟩,trivial⟩|exact qaf rfl rfl|refine qaf (fun env=>?_) ?_|refine qaf ?_ ?_|refine wma ?_|(apply TO.zaE 14 m3;(iterate 3 exact rfl);exact zqb;(iterate 8 exact rfl))|(apply TO.zaE 13 e3;(iterate 3 exact rfl);exact zqb;(iterate 8 exact rfl))|refine wmk ?_|fail)
  done
 case hc=>exact rfl
 case hF=>exact rfl
 case hE=>exact rfl
 intro _
 have e4:=za5 x.a x.es x.c (x.L.map zaa) (Q3++[equT q3]) x.k (by rw[qae];simp only[qam,qaD];omega) (mrgE x.was x.t (x.sts.mapIdx fun i s=>zbl x i s (rsL x) (smE x.flag (onL x x.was i)))) [T.s x.reset]
 have m4:=zdZ (x.q (Q3++[equT q3])) x.was 194 [.ref 13 0] rfl (fun i s=>zbl x i s (rsL x) (smE x.flag (onL x x.was i))) (by dsimp only;omega)
  (fun i s hs=>zmv (x.q (Q3++[equT q3])) i s (by have:=(qab.1 hs).1;dsimp only at this;omega) (by have:=h.unl s (qat hs);omega) (h.cnd i s hs) h.csl h.csm)
 dsimp only at m4
 have heq:(T.ag (.sl 1 [T.s x.reset]::exC (mrgE x.was x.t (x.sts.mapIdx fun i s=>zbl x i s (rsL x) (smE x.flag (onL x x.was i))))))=equT ⟨[x.reset],mrgE x.was x.t (x.sts.mapIdx fun i s=>zbl x i s (rsL x) (smE x.flag (onL x x.was i)))⟩:=rfl
 rw[heq]at e4
 obtain⟨q4,hq4'⟩:∃q4:Equ,q4=⟨[x.reset],mrgE x.was x.t (x.sts.mapIdx fun i s=>zbl x i s (rsL x) (smE x.flag (onL x x.was i)))⟩:=⟨_,rfl⟩
 rw[<-hq4']at e4
 clear heq
 generalize hM4:mrgE x.was x.t (x.sts.mapIdx fun i s=>zbl x i s (rsL x) (smE x.flag (onL x x.was i)))=M4 at*
 repeat' (first|refine wkt ?_|fail)
 apply TR.zaw 0 (g:=True) [(_,0,0),(_,0,0),(_,0,0),(_,0,0),(_,0,0),(_,0,0),(_,0,0),(_,0,0),(_,0,0),(_,0,0),(_,0,0),(_,0,0),(_,0,0),(_,1,0)] [(x.q (Q3++[equT q3])).G,(x.q (Q3++[equT q3]++[equT q4])).G] hmix
 case hB=>exact zqv
 case h0=>exact rfl
 case hp=>
  repeat' (first|exact trivial|exact⟨⟨rfl,rfl⟩,trivial⟩|exact qaf rfl rfl|refine qaf (fun env=>?_) ?_|refine qaf ?_ ?_|refine wma ?_|(apply TO.zaE 14 m4;(iterate 3 exact rfl);exact zqb;(iterate 8 exact rfl))|(apply TO.zaE 13 e4;(iterate 3 exact rfl);exact zqb;(iterate 8 exact rfl))|refine wmk ?_|fail)
  done
 case hc=>exact rfl
 case hF=>exact rfl
 case hE=>exact rfl
 intro _
 obtain⟨Q5,hQ5⟩:∃Q5:List T,Q5=Q3++[equT q3]++[equT q4]:=⟨_,rfl⟩
 have hl5:Q5.length=Q3.length+2:=by rw[hQ5];simp
 have hq5:Q5=x.Q++(zjL x++(x.sts.mapIdx (eqU x)).flatten++zmt x).map equT:=by
  have h34:zmt x=[q3,q4]:=by rw[hq3',hq4',<-hM3,<-hM4];rfl
  rw[h34,hQ5,hq3]
  simp
 rw[<-hQ5]
 clear e3 m3 e4 m4 hQ5 hq3 hM3 hM4
 repeat' (first|refine wkt ?_|refine zab.exit ?_|exact wkc|intro hc|refine wk2 ?_ ?_|fail)
 obtain⟨BQ,hBQ⟩:∃BQ:Nat->List T,BQ=fun i=>Q5++((x.bodies.take i).mapIdx (eqB x)).map equT:=⟨_,rfl⟩
 have hBl:∀i,(BQ i).length≤Q5.length+i:=fun i=>by rw[hBQ];simp only[qae,qaa,qa2,qaV];omega
 have hB0:BQ 0=Q5:=by rw[hBQ];simp
 have hbs:=h.bod
 refine TR.zal x.bodies.length (fun _=>True) (fun i=>[(1,.ref 13 0),(113,.sl 8 (x.bodies.map nodT) 11),(114,.i x.bodies.length),(115,.i i)]) (fun i=>(x.q (BQ i)).G) trivial (fun i hlt _=>?_) (fun _=>?_) ⟨rfl,rfl,by rw[<-hmb];rfl,rfl,trivial⟩ (by(try dsimp only);rw[hB0])
 ·have hx:=zar nodT hlt
  have hn:BQ (i+1)=BQ i++[equT (eqB x i x.bodies[i])]:=by
   rw[hBQ]
   exact zwfg
  have hQi:=hBl i
  have hin:=h.ins _ (qad hlt)
  obtain⟨l,hl1,hl2⟩:=h.prt i (by omega) 0 (by unfold lefts;simp)
  have hz:(x.parts.map fun l=>T.sl 1 (l.map T.s))[i]?=some (T.sl 1 (l.map T.s)):=by rw[qau,hl1];rfl
  have hpl:=h.prl
  have hm1:(x.parts.map fun l=>T.sl 1 (l.map T.s)).length=x.parts.length:=qaa _
  generalize BQ i=Qi at*
  have hqb:eqB x i x.bodies[i]=⟨l,calE x.bodies[i].name ((x.bodies[i].ins.map fun d=>smE d.name (onL x x.now i))++[smE x.reset (onL x x.now i)])⟩:=by unfold eqB;rw[hl1];rfl
  rw[hqb]at hn
  clear hqb hBQ hBl
  generalize x.bodies[i]=b at*
  have hnb:nodT b= .ag (nC b):=rfl
  rw[hnb]at hx
  have cm:=zmO (fun _:Unit=>(x.q Qi).G++[.cells [.i i]]) 15 (fun _=>rfl) (fun _=>rfl) 198 [.ref 13 0,.ref 14 0] rfl (fun _ s d=>(s,smE d.name (onL x x.now i))) (fun _ _=>True) b.ins (by omega)
   (fun j _ d _ _=>zmw (x.q Qi) i j d (by omega)) (fun _ _ _ _ _=>trivial) () trivial
  rw[zeI]at cm
  have hmi:(b.ins.mapIdx fun j (d:Decl)=>(fun _ (d:Decl)=>smE d.name (onL x x.now i)) (0+j) d)=b.ins.map fun d=>smE d.name (onL x x.now i):=by
   apply qcw
   intro k
   simp
  dsimp only at cm hmi
  rw[hmi]at cm
  have hargl:b.ins.length=(b.ins.map fun d=>smE d.name (onL x x.now i)).length:=(qaa _).symm
  generalize (b.ins.map fun d=>smE d.name (onL x x.now i))=args at*
  clear hmi
  have c0:=zdD x.a x.es x.c (x.L.map zaa) Qi x.k x.now i
  have ho:=zpe x x.now i (by omega)
  have c1:=zbR x.reset (onL x x.now i)
  rw[ho]at c1
  generalize smE x.reset (onL x x.now i)=last at*
  have hal:(args.map exT).length=args.length:=qaa _
  have e5:=za5 x.a x.es x.c (x.L.map zaa) Qi x.k (by omega) (calE b.name (args++[last])) (l.map T.s)
  have heq:(T.ag (.sl 1 (l.map T.s)::exC (calE b.name (args++[last]))))=equT ⟨l,calE b.name (args++[last])⟩:=rfl
  rw[heq]at e5
  have hcc:exC (calE b.name (args++[last]))=[T.n (i64 10),T.n z64,T.n z64,T.n (i64 1),.s b.name,.sl 6 (args.map exT++[.ag (exC last)])]:=by rw[<-zay];simp[calE,exC,Ex.kind,Ex.op,Ex.t,Ex.v,Ex.name,Ex.args]
  rw[hcc]at e5
  generalize equT ⟨l,calE b.name (args++[last])⟩=eq at*
  clear hcc heq
  have haml:b.ins.length=(args.map exT).length:=by rw[hal,hargl]
  rw[haml]at cm
  repeat' (first|refine wkt ?_|refine zqx ?_|refine zqp ?_|(apply TO.zpO 15 cm;(iterate 3 exact rfl);exact zqb;(iterate 7 exact rfl))|refine zab.exit ?_|exact wkc|intro hc|refine wk2 ?_ ?_|fail)
  apply TR.zhc [8] 0 (g:=True) [(_,0,0),(_,0,0),(_,0,0),(_,0,0),(_,0,0),(_,0,0),(_,0,0),(_,0,0),(_,0,0),(_,0,0),(_,0,0),(_,0,0),(_,0,0),(_,0,0),(_,1,0),(_,1,1)] [(x.q Qi).G++[.cells [.i i],.cells [.t (.s b.name),.t (zac b.ins),.t (zac b.outs),.t (zac b.locals),.t (.sl 7 (b.eqs.map equT)),.t (.sl 1 (b.autos.map zae)),.t (.sl 6 (b.assume.map exT)),.t (.sl 6 (b.ensure.map exT))],.tail (args.map exT).length],(x.q Qi).G++[.cells [.i i],.cells [.t (.s b.name),.t (zac b.ins),.t (zac b.outs),.t (zac b.locals),.t (.sl 7 (b.eqs.map equT)),.t (.sl 1 (b.autos.map zae)),.t (.sl 6 (b.assume.map exT)),.t (.sl 6 (b.ensure.map exT))],.tail ((args.map exT).length+1)]] hmix
  case hB=>exact zqv
  case hw=>exact rfl
  case h0=>exact rfl
  case hp=>
   repeat' (first|exact trivial|exact⟨⟨rfl,rfl⟩,trivial⟩|exact qaf rfl rfl|refine qaf (fun env=>?_) ?_|refine qaf ?_ ?_|refine wma ?_|(apply TO.zaE 13 c0;(iterate 3 exact rfl);exact zqb;(iterate 8 exact rfl))|refine wmv c1 ?_|(apply TO.zbb zag;(iterate 13 exact rfl);exact zqn;exact rfl)|refine wmk ?_|fail)
   done
  case hc=>exact rfl
  case hF=>exact rfl
  case hE=>exact rfl
  intro _
  repeat' (first|refine wkt ?_|fail)
  refine TR.own 8 rfl ?_
  apply TR.zaw 0 (g:=True) [(_,0,0),(_,0,0),(_,0,0),(_,0,0),(_,0,0),(_,0,0),(_,0,0),(_,0,0),(_,0,0),(_,0,0),(_,0,0),(_,0,0),(_,1,0)] [(x.q Qi).G++[.cells [.i i],.cells [.t (.s b.name),.t (zac b.ins),.t (zac b.outs),.t (zac b.locals),.t (.sl 7 (b.eqs.map equT)),.t (.sl 1 (b.autos.map zae)),.t (.sl 6 (b.assume.map exT)),.t (.sl 6 (b.ensure.map exT))],.tail ((args.map exT).length+1)],(x.q (Qi++[eq])).G++[.cells [.i i],.cells [.t (.s b.name),.t (zac b.ins),.t (zac b.outs),.t (zac b.locals),.t (.sl 7 (b.eqs.map equT)),.t (.sl 1 (b.autos.map zae)),.t (.sl 6 (b.assume.map exT)),.t (.sl 6 (b.ensure.map exT))],.tail ((args.map exT).length+1)]] hmix
  case hB=>exact zqv
  case h0=>exact rfl
  case hp=>
   repeat' (first|exact trivial|exact⟨⟨rfl,rfl⟩,trivial⟩|exact qaf rfl rfl|refine qaf (fun env=>?_) ?_|refine qaf ?_ ?_|refine wma ?_|(apply TO.indexAddr zag;(iterate 8 exact rfl);omega;exact hz)|(apply TO.zaE 13 e5;(iterate 3 exact rfl);exact zqb;(iterate 8 exact rfl))|refine wmk ?_|fail)
   done
  case hc=>exact rfl
  case hF=>exact rfl
  case hE=>exact rfl
  intro _
  repeat' (first|refine wkt ?_|refine zab.exit ?_|exact wkc|intro hc|refine wk2 ?_ ?_|refine wk ?_|fail)
  exact zab.ziJ 14 hlt trivial rfl rfl (by(try dsimp only);rw[hn];rfl) rfl rfl (by(try dsimp only);exact⟨rfl,rfl,rfl,rfl,trivial⟩)
 have hQ6:=hBl x.bodies.length
 have hq6:BQ x.bodies.length=x.Q++(zjL x++(x.sts.mapIdx (eqU x)).flatten++zmt x++x.bodies.mapIdx (eqB x)).map equT:=by rw[hBQ,hq5];simp only[qah,qal,qa8]
 clear hBl hBQ hB0 hq5
 generalize BQ x.bodies.length=Q6 at*
 have hdf:=h.defs
 have cd:=zhT (fun _:Unit=>[]) 0 (fun _=>rfl) (fun _=>rfl) 199 [] rfl (fun _ s d=>(s,d.name)) (fun _ _=>True) x.defs (by omega)
  (fun j _ d _ _=>zmx j d) (fun _ _ _ _ _=>trivial) () trivial
 rw[zeI]at cd
 have hmi:(x.defs.mapIdx fun j (d:Decl)=>(fun _ (d:Decl)=>d.name) (0+j) d)=x.defs.map Decl.name:=by
  apply qcw
  intro k
  simp
 dsimp only at cd hmi
 rw[hmi]at cd
 clear hmi
 have hdl:x.defs.length=((x.defs.map Decl.name).map T.s).length:=by simp
 rw[hdl]at cd
 obtain⟨LT,hLT⟩:∃LT:List T,LT=(x.defs.map Decl.name).map T.s++[T.s x.next,T.s x.back]:=⟨_,rfl⟩
 have hLm:LT=(lefts x).map T.s:=by rw[hLT];unfold lefts;simp
 have hll:LT.length=(lefts x).length:=by rw[hLm,qaa]
 have hlb:(lefts x).length=x.defs.length+2:=by unfold lefts;simp
 generalize (x.defs.map Decl.name).map T.s=DN at*
 repeat' (first|refine wkt ?_|refine zab.exit ?_|exact wkc|intro hc|refine wk2 ?_ ?_|fail)
 apply TR.zaw 0 (g:=True) [(_,0,0),(_,0,0),(_,0,0),(_,0,0),(_,1,0),(_,0,1),(_,0,1),(_,0,1),(_,0,1),(_,0,1),(_,0,1),(_,0,1),(_,0,1),(_,0,1),(_,1,0),(_,2,2)] [(x.q Q6).G,(x.q Q6).G++[.tail DN.length],(x.q Q6).G++[.tail (DN.length+2)]] hmix
 case hB=>exact zqv
 case h0=>exact rfl
 case hp=>
  repeat' (first|exact trivial|exact⟨⟨rfl,rfl⟩,trivial⟩|exact qaf rfl rfl|refine qaf (fun env=>?_) ?_|refine qaf ?_ ?_|refine wma ?_|(apply TO.zdv cd;(iterate 3 exact rfl);exact zqb;exact rfl)|(apply TO.zbb zag;(iterate 13 exact rfl);exact zqn;exact rfl)|refine wmk ?_|fail)
  done
 case hc=>exact rfl
 case hF=>exact rfl
 case hE=>exact rfl
 intro _
 obtain⟨WQ,hWQ⟩:∃WQ:Nat->List T,WQ=fun j=>Q6++(((lefts x).take j).mapIdx (eqL x)).map equT:=⟨_,rfl⟩
 have hWl:∀i,(WQ i).length≤Q6.length+i:=fun i=>by rw[hWQ];simp only[qae,qaa,qa2,qaV];omega
 have hW0:WQ 0=Q6:=by rw[hWQ];simp
 repeat' (first|refine wkt ?_|refine zab.exit ?_|exact wkc|intro hc|refine wk2 ?_ ?_|fail)
 refine TR.zal (lefts x).length (fun _=>True) (fun j=>[(1,.ref 13 0),(168,.sl 1 LT 14),(169,.i (lefts x).length),(170,.i j)]) (fun j=>(x.q (WQ j)).G++[.tail (DN.length+2)]) trivial (fun j hlt _=>?_) (fun _=>?_) ⟨rfl,by rw[hLT];rfl,by rw[<-hll,hLT];rfl,rfl,trivial⟩ (by(try dsimp only);rw[hW0])
 ·have hx:LT[j]?=some (T.s (lefts x)[j]):=by rw[hLm];exact zar T.s hlt
  have hn:WQ (j+1)=WQ j++[equT (eqL x j (lefts x)[j])]:=by
   rw[hWQ]
   exact zwfg
  have hQj:=hWl j
  generalize WQ j=Qj at*
  have m7:=zdZ (x.q Qj) x.now 200 [.ref 13 0,.cp [T.i j] 0] rfl (fun i _=>vrE (partAt x i j)) (by dsimp only;omega)
   (fun i s hs=>zmy (x.q Qj) i j s (h.prt i (qab.1 hs).1 j hlt) h.prl h.prm)
  dsimp only at m7
  have hqe:equT (eqL x j (lefts x)[j])= .ag (.sl 1 [T.s (lefts x)[j]]::exC (mrgE x.now x.t (x.sts.mapIdx fun i _=>vrE (partAt x i j)))):=rfl
  have e7:=za5 x.a x.es x.c (x.L.map zaa) Qj x.k (by omega) (mrgE x.now x.t (x.sts.mapIdx fun i _=>vrE (partAt x i j))) [T.s (lefts x)[j]]
  rw[<-hqe]at e7
  generalize mrgE x.now x.t (x.sts.mapIdx fun i _=>vrE (partAt x i j))=M7 at*
  generalize equT (eqL x j (lefts x)[j])=eq at*
  generalize (lefts x)[j]=left at*
  clear hqe hWl hWQ hLm cd
  repeat' (first|refine wkt ?_|refine zqp ?_|refine zab.exit ?_|exact wkc|intro hc|refine wk2 ?_ ?_|fail)
  apply TR.zaw 0 (g:=True) [(_,0,0),(_,0,0),(_,0,0),(_,0,0),(_,0,0),(_,0,0),(_,0,0),(_,0,0),(_,0,0),(_,0,0),(_,1,0)] [(x.q Qj).G++[.tail (DN.length+2)],(x.q (Qj++[eq])).G++[.tail (DN.length+2)]] hmix
  case hB=>exact zqv
  case h0=>exact rfl
  case hp=>
   repeat' (first|exact trivial|exact⟨⟨rfl,rfl⟩,trivial⟩|exact qaf rfl rfl|refine qaf (fun env=>?_) ?_|refine qaf ?_ ?_|refine wma ?_|(apply TO.zaE 14 m7;(iterate 3 exact rfl);exact zqb;(iterate 8 exact rfl))|(apply TO.zaE 13 e7;(iterate 3 exact rfl);exact zqb;(iterate 8 exact rfl))|refine wmk ?_|fail)
   done
  case hc=>exact rfl
  case hF=>exact rfl
  case hE=>exact rfl
  intro _
  repeat' (first|refine wkt ?_|refine zab.exit ?_|exact wkc|intro hc|refine wk2 ?_ ?_|refine wk ?_|fail)
  exact zab.zat hlt trivial (by(try dsimp only);exact⟨rfl,rfl,rfl,rfl,trivial⟩) (by(try dsimp only);rw[hn])
 have hq7:WQ (lefts x).length=x.Q++(zfv x).map equT:=by rw[hWQ,hq6];unfold zfv;simp only[qah,qal,qa8]
 rw[hq7]
 repeat' (first|refine wkt ?_|refine zab.exit ?_|exact wkc|intro hc|refine wk2 ?_ ?_|refine wk ?_|fail)
 exact RetK.ziH 13 rfl (Le.refl _) rfl rfl rfl rfl rfl ⟨rfl,rfl⟩
end Go.Proofs.YtpnnpgbaiobbjaaGreatDoor
