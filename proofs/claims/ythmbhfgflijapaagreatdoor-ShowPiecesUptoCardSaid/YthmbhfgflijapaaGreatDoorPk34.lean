import Derived.Test.YthmbhfgflijapaaGreatDoorPk33
set_option linter.all false
namespace Go.Proofs.YthmbhfgflijapaaGreatDoor
open Go Go.TL
attribute [local irreducible] TR TO Then zag RetK Sound zab Kf GG zaK
set_option maxHeartbeats 8000000 in
theorem zlO {es:List En} {f:Ex->Str} {e:Ex} (hA:ShA e) (hk:e.kind.1=10) (hf:∀x∈e.args,ShC 18 es x (f x)) (hl:∀x∈e.args,(f x).length≤1000000000000):
  ShC 46 es e (zeX f e.v.1 e.name e.args):=by
 have hv:=hA.v10 hk
 have hnm:=hA.name
 have hfew:=hA.few
 have hg:∀x∈e.args,ShC 43 es x (grS f x):=fun x hx=>zdW (hf x hx) (qaq (hl x hx) (by decide))
 have hgl:∀x∈e.args,(grS f x).length≤1000000000002:=fun x hx=>by
  exact zwdf
 obtain⟨k,o,t,v,nm,args⟩:=e
 clear hA
 dsimp only[Ex.kind,Ex.v,Ex.args,Ex.name]at*
 have hml:(args.map exT).length=args.length:=qab _
 obtain⟨v,vv1,vv2⟩:=v
 dsimp only at hv⊢
 show Sound _ _ _ _ _
 rw[zbA]
 by_cases h1:v=1
 ·subst h1
  have hn1:1≤args.length:=by omega
  obtain⟨n,hn⟩:∃n,n=args.length-1:=⟨_,rfl⟩
  have hlt3:n<args.length:=by omega
  unfold zeX
  rw[if_pos rfl,<-hn,qac hlt3]
  simp only[qaW,qbm]
  have hnv:((args.map exT).length:Int)-1=(n:Int):=by rw[hml];omega
  have hml2:((args.map exT).take n).length=n:=by rw[qbn,hml];omega
  have hl2:(args.take n).length=n:=by rw[qbn];omega
  have hmt:(args.map exT).take n=(args.take n).map exT:=(qbH ..).symm
  have hjl:(Go.Lib.join ((args.take n).map f) [44,32]).length≤64*1000000000002:=by
   exact zwbi
  have hj:=zcs ((args.take n).map f) [44,32] (by rw[qab,hl2];omega) (qaq hjl (by decide))
  rw[qa8]at hj
  generalize Go.Lib.join ((args.take n).map f) [44,32]=jn at*
  refine so Tryz.func46 ?_
  refine wkt ?_
  refine zqj ?_
  repeat' (first|refine wkt ?_|(apply TO.zaV (b:=1);(iterate 3 exact rfl);omega;omega;rw[hnv])|(apply TO.zgY zaf (a:=0) (b:=n);(iterate 7 exact rfl);exact .inl ⟨rfl,rfl⟩;exact .inr ⟨_,_,rfl,rfl⟩;exact qaJ _;(rw[hml];omega))|fail)
  refine TR.tail 1 6 rfl ?_
  refine TR.zaA n (fun _=>True) (fun j=>[(2,.ref 1 0),(3,.cp [T.n k,T.n o,T.n t,T.i 1,.s nm,.sl 6 (args.map exT)] 0),(5,.i n),(6,.sl 1 (((args.take n).take j).map (T.s ∘ f)) 2),(19,.t (.sl 6 ((args.map exT).take n))),(20,.i n),(21,.i j)]) (fun j=>[symB,.cells [.t (ensT es),.mp 0],.tail (((args.take n).take j).map (T.s ∘ f)).length]) trivial (fun j hlt _=>?_) (fun _=>?_) ⟨rfl,rfl,rfl,rfl,rfl,(congrArg (fun q:Nat=>some (SV.i q)) hml2),rfl,trivial⟩ rfl
  ·exact zwe
  ·rw[qaI (Nat.le_of_eq hl2)]
   repeat' (first|refine wkt ?_|refine zab.exit ?_|exact wkc|intro hc|refine wk2 ?_ ?_|fail)
   refine rgS [.cp [T.n k,T.n o,T.n t,T.i 1,.s nm,.sl 6 (args.map exT)] 4,.s nm,.s (nm++[40]),.sl 1 ((args.take n).map (T.s ∘ f)) 2,.s jn,.s (nm++[40]++jn),.s (nm++[40]++jn++[41]),.s (nm++[40]++jn++[41])] ?_ ?_
   ·repeat' (first|refine wkt ?_|refine wv hj ?_|refine zqc ?_|exact trivial|exact⟨⟨rfl,rfl⟩,trivial⟩|refine qai (fun env=>?_) ?_|refine wk ?_|exact wkc|intro hc|refine wk2 ?_ ?_|fail)
    done
   ·have hs:=hg _ (qaf hlt3)
    have hy:=hgl _ (qaf hlt3)
    have hx:=zd3 hlt3
    unfold ShC at hs
    generalize args[n]=x at*
    generalize grS f x=g at*
    obtain⟨k',o',t',v',n',l'⟩:=x
    rw[zbA]at hx hs
    generalize l'.map exT=la at*
    repeat' (first|refine wkt ?_|exact wkc|intro hc|refine wk2 ?_ ?_|fail)
    refine rgW [9] [.s (nm++[40]++jn++[41]),wr es,.cp [T.n k,T.n o,T.n t,T.i 1,.s nm,.sl 6 (args.map exT)] 5,.t (.sl 6 (args.map exT)),.i n,.cp [T.n k',T.n o',T.n t',T.n v',.s n',.sl 6 la] 0,.t (.ag [T.n k',T.n o',T.n t',T.n v',.s n',.sl 6 la]),.s g,.s ([32,101,118,101,114,121,32]++g),.s (nm++[40]++jn++[41]++([32,101,118,101,114,121,32]++g)),.s (nm++[40]++jn++[41]++([32,101,118,101,114,121,32]++g))] ?_ ?_
    ·repeat' (first|refine wkt ?_|refine wd hs ?_|refine zqc ?_|exact trivial|exact⟨⟨rfl,rfl⟩,trivial⟩|refine qai (fun env=>?_) ?_|refine wk ?_|exact wkc|intro hc|refine wk2 ?_ ?_|fail)
     done
    ·repeat' (first|refine wu ?_|exact wkc|intro hc|refine wk2 ?_ ?_|fail)
     exact zwfr
 ·obtain rfl:v=0:=by omega
  obtain⟨n,hn⟩:∃n,n=args.length:=⟨_,rfl⟩
  unfold zeX
  rw[if_neg (by decide)]
  rw[show args.map f=(args.take n).map f by rw[hn,qap]]
  have hnv:((args.map exT).length:Int)-0=(n:Int):=by rw[hml];omega
  have hml2:((args.map exT).take n).length=n:=by rw[qbn,hml];omega
  have hl2:(args.take n).length=n:=by rw[qbn];omega
  have hmt:(args.map exT).take n=(args.take n).map exT:=(qbH ..).symm
  have hjl:(Go.Lib.join ((args.take n).map f) [44,32]).length≤64*1000000000002:=by
   exact zwbi
  have hj:=zcs ((args.take n).map f) [44,32] (by rw[qab,hl2];omega) (qaq hjl (by decide))
  rw[qa8]at hj
  generalize Go.Lib.join ((args.take n).map f) [44,32]=jn at*
  refine so Tryz.func46 ?_
  refine wkt ?_
  refine zqj ?_
  repeat' (first|refine wkt ?_|(apply TO.zaV (b:=0);(iterate 3 exact rfl);omega;omega;rw[hnv])|(apply TO.zgY zaf (a:=0) (b:=n);(iterate 7 exact rfl);exact .inl ⟨rfl,rfl⟩;exact .inr ⟨_,_,rfl,rfl⟩;exact qaJ _;(rw[hml];omega))|fail)
  refine TR.tail 1 6 rfl ?_
  refine TR.zaA n (fun _=>True) (fun j=>[(2,.ref 1 0),(3,.cp [T.n k,T.n o,T.n t,T.i 0,.s nm,.sl 6 (args.map exT)] 0),(5,.i n),(6,.sl 1 (((args.take n).take j).map (T.s ∘ f)) 2),(19,.t (.sl 6 ((args.map exT).take n))),(20,.i n),(21,.i j)]) (fun j=>[symB,.cells [.t (ensT es),.mp 0],.tail (((args.take n).take j).map (T.s ∘ f)).length]) trivial (fun j hlt _=>?_) (fun _=>?_) ⟨rfl,rfl,rfl,rfl,rfl,(congrArg (fun q:Nat=>some (SV.i q)) hml2),rfl,trivial⟩ rfl
  ·exact zwe
  ·rw[qaI (Nat.le_of_eq hl2)]
   repeat' (first|refine wkt ?_|refine zab.exit ?_|exact wkc|intro hc|refine wk2 ?_ ?_|fail)
   refine rgS [.cp [T.n k,T.n o,T.n t,T.i 0,.s nm,.sl 6 (args.map exT)] 4,.s nm,.s (nm++[40]),.sl 1 ((args.take n).map (T.s ∘ f)) 2,.s jn,.s (nm++[40]++jn),.s (nm++[40]++jn++[41]),.s (nm++[40]++jn++[41])] ?_ ?_
   ·repeat' (first|refine wkt ?_|refine wv hj ?_|refine zqc ?_|exact trivial|exact⟨⟨rfl,rfl⟩,trivial⟩|refine qai (fun env=>?_) ?_|refine wk ?_|exact wkc|intro hc|refine wk2 ?_ ?_|fail)
    done
   ·repeat' (first|refine wu ?_|exact wkc|intro hc|refine wk2 ?_ ?_|fail)
    exact zwfr
theorem zjs(sep:Str):∀l:List Str,(Go.Lib.join l sep).length≤(l.map fun x=>x.length+sep.length).sum
 | []=>by simp[Go.Lib.join]
 | [x]=>by simp[Go.Lib.join]
 | x::y::l=>by
   have h2:=zjs sep (y::l)
   have e:(Go.Lib.join (x::y::l) sep).length=x.length+sep.length+(Go.Lib.join (y::l) sep).length:=by
    simp[Go.Lib.join]
    try omega
   rw[e,qah,qay]
   omega
def zdC(N:Nat)(f:Ex->Str)(l:List Ex):Nat:=(l.map fun x=>(f x).length+(N+40)).sum
theorem zaU(N:Nat)(f:Ex->Str)(x:Ex)(l:List Ex):zdC N f (x::l)=(f x).length+(N+40)+zdC N f l:=by simp[zdC]
theorem zqm(N:Nat)(f:Ex->Str)(l:List Ex)(x:Ex):zdC N f (l++[x])=zdC N f l+((f x).length+(N+40)):=by simp[zdC]
theorem zcH(N:Nat)(f:Ex->Str):zdC N f []=0:=rfl
theorem zcW(f:Ex->Str)(x:Ex):(grS f x).length≤(f x).length+2:=by
 unfold grS
 split
 ·omega
 ·exact zwfh
theorem zqk(N:Nat)(f:Ex->Str)(o:Int):∀l:List Ex,(zgE f o l).length≤10+zdC N f l
 | []=>qaJ _
 | [a]=>by
   have:=zcW f a
   rw[zaU,zcH]
   rw[zkW]
   split
   ·exact zwfh
   split
   ·exact zwfh
   ·exact zwfh
 | [a,b]=>by
   have:=zcW f a
   have:=zcW f b
   have:=znE o
   rw[zaU,zaU,zcH]
   rw[zkX]
   exact zwfh
 | _::_::_::_=>qaJ _
theorem ziO{N:Nat}{es:List En}{f:Ex->Str}{args:List Ex}(h:∀t v:I64,(valS es t.1 v.1).length≤N+30)(t:I64)(ht:t.1≠1)(s:Str):∀i:Nat,i≤args.length->i≤64->(zbc es f t.1 args s i).length≤s.length+zdC N f (args.take i)
 | 0,_,_=>by simp[zbc]
 | i+1,hi,hj=>by
   have ih:=ziO (f:=f) (args:=args) h t ht s i (by omega) (by omega)
   have hb:brV t.1 i=i:=if_neg ht
   have hv:(valS es t.1 (i:Int)).length≤N+30:=h t ⟨(i:Int),by omega⟩
   have hlt:i<args.length:=by omega
   rw[zbc,hb,qcv,qac hlt,zbr hlt]
   rw[zqm]
   exact zwdm
theorem zok{N:Nat}{es:List En}{f:Ex->Str}{e:Ex}(h:∀t v:I64,(valS es t.1 v.1).length≤N+30)(hA:ShA e)(h9:e.kind.1=9)(s:Str):(zbc es f e.t.1 e.args s e.args.length).length≤s.length+zdC N f e.args:=by
 by_cases ht:e.t.1=1
 ·obtain⟨a,b,hab⟩:=len2 (hA.k9 h9 ht)
  have h0:=h ⟨1,by decide⟩ ⟨0,by decide⟩
  have h1:=h ⟨1,by decide⟩ ⟨1,by decide⟩
  rw[hab,ht,zaU,zaU,zcH]
  simp only[qal,qaz,zbc,brV,if_true]
  simp
  simp at h0 h1
  omega
 ·have:=ziO h e.t ht s (args:=e.args) (f:=f) e.args.length (qae _) hA.few
  rw[qap]at this
  exact this
theorem ziR(N:Nat)(f:Ex->Str):∀l:List Ex,(Go.Lib.join (l.map f) [44,32]).length≤zdC N f l:=by
 intro l
 refine qaq (zjs _ _) ?_
 unfold zdC
 induction l with
 | nil=>exact qae _
 | cons x l ih=>
   simp only[qah,qay,qal,qaz]
   simp only[qal,qaz]at ih
   omega
theorem zpg(N:Nat)(f:Ex->Str)(v:Int)(nm:Str)(args:List Ex):(zeX f v nm args).length≤nm.length+20+zdC N f args:=by
 unfold zeX
 split
 ·by_cases h0:args=[]
  ·subst h0
   simp[Go.Lib.join,zdC]
  ·have hlt:args.length-1<args.length:=by
    have:0<args.length:=qba.2 h0
    omega
   have h1:=ziR N f (args.take (args.length-1))
   have h2:=zcW f args[args.length-1]
   have e:zdC N f args=zdC N f (args.take (args.length-1))+((f args[args.length-1]).length+(N+40)):=by
    have htk:=zbr hlt
    rw[show args.length-1+1=args.length by omega,qap]at htk
    generalize args.take (args.length-1)=p at*
    generalize args[args.length-1]=x at*
    rw[htk]
    simp[zdC]
   rw[qac hlt,e]
   exact zwdm
 ·have h1:=ziR N f args
  exact zwfg
theorem zuz{N:Nat}{es:List En}{f:Ex->Str}{e:Ex}(h:∀t v:I64,(valS es t.1 v.1).length≤N+30)(hA:ShA e)(hnm:e.name.length≤N):(shE es f e).length≤3*N+50+zdC N f e.args:=by
 have hv:=h e.t e.v
 unfold shE
 split
 ·omega
 split
 ·have:=zqk N f e.op.1 e.args;omega
 split
 ·rename_i h4
  obtain⟨a,b,c,habc⟩:=len3 (hA.k4 h4)
  rw[habc,zaU,zaU,zaU,zcH]
  simp only[qad,qal,qaz];omega
 split
 ·rename_i h5
  obtain⟨a,ha⟩:=qbC.1 (hA.k5 (.inl h5))
  have:=zcW f a
  rw[ha,zaU,zcH]
  simp only[qad,qal,qaz];omega
 split
 ·rename_i h6
  obtain⟨a,b,hab⟩:=len2 (hA.k6 (.inl h6))
  have:=zcW f a
  have:=zcW f b
  rw[hab,zaU,zaU,zcH]
  simp only[qad,qal,qaz];omega
 split
 ·rename_i h7
  obtain⟨a,b,hab⟩:=len2 (hA.k6 (.inr h7))
  have:=zcW f a
  have:=zcW f b
  rw[hab,zaU,zaU,zcH]
  simp only[qad,qal,qaz];omega
 split
 ·rename_i h8
  obtain⟨a,ha⟩:=qbC.1 (hA.k5 (.inr h8))
  have:=zcW f a
  have hsm:(smpS es ⟨e.name,e.t,e.v⟩).length≤2*N+40:=by
   exact zwex
  rw[ha,zaU,zcH]
  simp only[qad,qal,qaz];omega
 split
 ·rename_i h9
  have:=zok (f:=f) h hA h9 ([109,101,114,103,101,32]++e.name)
  simp only[qad,qal,qaz]at this⊢
  omega
 split
 ·have:=zpg N f e.v.1 e.name e.args;omega
 split
 ·exact zwfh
 ·omega
def ShOk(e:Ex):Prop:=∀x∈flat e,ShA x
theorem ShOk.self{e:Ex}(h:ShOk e):ShA e:=h e (by rw[zbJ];exact qak ..)
theorem ShOk.arg{e x:Ex}(h:ShOk e)(hx:x∈e.args):ShOk x:=fun y hy=>h y (by
 rw[zbJ]
 exact qan _ (qbx.2 ⟨flat x,qaP.2 ⟨x,hx,rfl⟩,hy⟩))
theorem zjI{N:Nat}{es:List En}(h:∀t v:I64,(valS es t.1 v.1).length≤N+30):∀(m:Nat) (e:Ex),ShOk e->(∀x∈flat e,x.name.length≤N)->(shF es m e).length+(N+40)≤wEx e*(4*N+100)
 | 0,e,_,_=>by
   have:=zb7 e
   have:=qaD (4*N+100) this
   simp only[shF,qaz]
   omega
 | m+1,e,he,hn=>by
   have h1:=zuz (f:=shF es m) h he.self (hn e (by rw[zbJ];exact qak ..))
   have h2:zdC N (shF es m) e.args≤(e.args.map wEx).sum*(4*N+100):=by
    have hall:∀l:List Ex,(∀x∈l,ShOk x/\∀y∈flat x,y.name.length≤N)->zdC N (shF es m) l≤(l.map wEx).sum*(4*N+100):=by
     intro l
     induction l with
     | nil=>intro _;exact qaJ _
     | cons x l ih=>
       intro hl
       have h3:=zjI h m x (hl x (qak ..)).1 (hl x (qak ..)).2
       have h4:=ih fun y hy=>hl y (qan _ hy)
       rw[zaU,qah,qay,qaX]
       omega
    exact hall _ fun x hx=>⟨he.arg hx,fun y hy=>hn y (by rw[zbJ];exact qan _ (qbx.2 ⟨flat x,qaP.2 ⟨x,hx,rfl⟩,hy⟩))⟩
   rw[zfN,qaX]
   simp only[shF]
   omega
theorem zhS{es:List En}(h:ShE es)(m:Nat)(e:Ex)(he:ShOk e):(shF es m e).length+3000040≤wEx e*12000100:=zjI (N:=3000000) (zeH h) m e he fun x hx=>(he x hx).name
set_option maxHeartbeats 16000000 in
theorem zrK {es:List En} {f:Ex->Str} {e:Ex} (h:ShE es) (hA:ShA e) (hf:∀x∈e.args,ShC 18 es x (f x)) (hl:∀x∈e.args,(f x).length≤1000000000000):
  ShC 18 es e (shE es f e):=by
 have hop:=fun h3=>zin hA h3 hf fun x hx=>qaq (hl x hx) (by decide)
 have hme:=fun h9=>zmg h hA h9 hf fun x hx=>qaq (hl x hx) (by decide)
 have hca:=fun h10=>zlO hA h10 hf hl
 have hva:=zdm h e.t e.v
 have hsm:=zeT h ⟨e.name,e.t,e.v⟩ hA.name
 have hsl:=zjM h ⟨e.name,e.t,e.v⟩ hA.name
 have hg:∀x∈e.args,ShC 43 es x (grS f x):=fun x hx=>zdW (hf x hx) (qaq (hl x hx) (by decide))
 have hgl:∀x∈e.args,(grS f x).length≤1000000000002:=fun x hx=>qaq (zcW f x) (by have:=hl x hx;omega)
 have hnm:=hA.name
 have hk:=hA.kind
 have h4:=hA.k4
 have h5:=hA.k5
 have h6:=hA.k6
 clear hA
 obtain⟨⟨k,kk1,kk2⟩,o,t,v,nm,args⟩:=e
 dsimp only[Ex.kind,Ex.op,Ex.t,Ex.v,Ex.args,Ex.name]at*
 have hsh:∀s,shE es f (.mk ⟨k,kk1,kk2⟩ o t v nm args)=s->Sound Tryz.prog 18 [wr es,.t (.ag [T.i k,T.n o,T.n t,T.n v,.s nm,.sl 6 (args.map exT)])] [symB] (fun r H'=>r= .ret (.s s)/\H'=[symB])->ShC 18 es (.mk ⟨k,kk1,kk2⟩ o t v nm args) (shE es f (.mk ⟨k,kk1,kk2⟩ o t v nm args)):=fun s hs hq=>by
  rw[hs]
  exact hq
 rcases(by omega:k=1\/k=2\/k=3\/k=4\/k=5\/k=6\/k=7\/k=8\/k=9\/k=10\/k=11)with rfl|rfl|rfl|rfl|rfl|rfl|rfl|rfl|rfl|rfl|rfl
 ·refine hsh (valS es t.1 v.1) rfl ?_
  generalize valS es t.1 v.1=z at*
  generalize args.map exT=la at*
  clear hop hme hca hf hg hsm
  refine so Tryz.func18 ?_
  refine wkt ?_
  refine zqj ?_
  repeat' (first|refine wkt ?_|refine wd hva ?_|exact wkc|intro hc|refine wk2 ?_ ?_|refine wk ?_|fail)
  exact zwfr
 ·refine hsh (nm) rfl ?_
  generalize args.map exT=la at*
  clear hop hme hca hf hg hsm hva
  refine so Tryz.func18 ?_
  refine wkt ?_
  refine zqj ?_
  repeat' (first|refine wkt ?_|fail|exact wkc|intro hc|refine wk2 ?_ ?_|refine wk ?_|fail)
  exact zwfr
 ·refine hsh (zgE f o.1 args) rfl ?_
  have hs:=hop rfl
  unfold ShC at hs
  rw[zbA]at hs
  generalize zgE f o.1 args=z at*
  exact zww
 ·have hn:=h4 rfl
  obtain⟨a,b,c,rfl⟩:=len3 hn
  refine hsh ([105,102,32]++f a++[32,116,104,101,110,32]++f b++[32,101,108,115,101,32]++f c) rfl ?_
  clear hop hme hca hva h4 h5 h6 hsh
  have sa:=hf a (qak ..)
  have qa:=hl a (qak ..)
  have sb:=hf b (qan _ (qak ..))
  have qb:=hl b (qan _ (qak ..))
  have sc:=hf c (qan _ (qan _ (qak ..)))
  have qc:=hl c (qan _ (qan _ (qak ..)))
  clear hf hl hg hgl
  unfold ShC at*
  dsimp only[List.map]
  rw[zae a,zae b,zae c]
  generalize f a=ga at*
  obtain⟨ka,oa,ta,va,na,la'⟩:=a
  rw[zbA ka]at*
  generalize la'.map exT=la at*
  generalize f b=gb at*
  obtain⟨kb,ob,tb,vb,nb,lb'⟩:=b
  rw[zbA kb]at*
  generalize lb'.map exT=lb at*
  generalize f c=gc at*
  obtain⟨kc,oc,tc,vc,nc,lc'⟩:=c
  rw[zbA kc]at*
  generalize lc'.map exT=lc at*
  refine so Tryz.func18 ?_
  refine wkt ?_
  refine zqj ?_
  repeat' (first|refine wkt ?_|exact wkc|intro hc|refine wk2 ?_ ?_|fail)
  refine rgS [wr es,.cp [T.i 4,T.n o,T.n t,T.n v,.s nm,.sl 6 [.ag [T.n ka,T.n oa,T.n ta,T.n va,.s na,.sl 6 la],.ag [T.n kb,T.n ob,T.n tb,T.n vb,.s nb,.sl 6 lb],.ag [T.n kc,T.n oc,T.n tc,T.n vc,.s nc,.sl 6 lc]]] 5,.t (.sl 6 [.ag [T.n ka,T.n oa,T.n ta,T.n va,.s na,.sl 6 la],.ag [T.n kb,T.n ob,T.n tb,T.n vb,.s nb,.sl 6 lb],.ag [T.n kc,T.n oc,T.n tc,T.n vc,.s nc,.sl 6 lc]]),.cp [T.n ka,T.n oa,T.n ta,T.n va,.s na,.sl 6 la] 0,.t (.ag [T.n ka,T.n oa,T.n ta,T.n va,.s na,.sl 6 la]),.s ga,.s ([105,102,32]++ga),.s ([105,102,32]++ga++[32,116,104,101,110,32]),wr es,.cp [T.i 4,T.n o,T.n t,T.n v,.s nm,.sl 6 [.ag [T.n ka,T.n oa,T.n ta,T.n va,.s na,.sl 6 la],.ag [T.n kb,T.n ob,T.n tb,T.n vb,.s nb,.sl 6 lb],.ag [T.n kc,T.n oc,T.n tc,T.n vc,.s nc,.sl 6 lc]]] 5,.t (.sl 6 [.ag [T.n ka,T.n oa,T.n ta,T.n va,.s na,.sl 6 la],.ag [T.n kb,T.n ob,T.n tb,T.n vb,.s nb,.sl 6 lb],.ag [T.n kc,T.n oc,T.n tc,T.n vc,.s nc,.sl 6 lc]]),.cp [T.n kb,T.n ob,T.n tb,T.n vb,.s nb,.sl 6 lb] 0,.t (.ag [T.n kb,T.n ob,T.n tb,T.n vb,.s nb,.sl 6 lb]),.s gb,.s ([105,102,32]++ga++[32,116,104,101,110,32]++gb),.s ([105,102,32]++ga++[32,116,104,101,110,32]++gb++[32,101,108,115,101,32]),wr es,.cp [T.i 4,T.n o,T.n t,T.n v,.s nm,.sl 6 [.ag [T.n ka,T.n oa,T.n ta,T.n va,.s na,.sl 6 la],.ag [T.n kb,T.n ob,T.n tb,T.n vb,.s nb,.sl 6 lb],.ag [T.n kc,T.n oc,T.n tc,T.n vc,.s nc,.sl 6 lc]]] 5,.t (.sl 6 [.ag [T.n ka,T.n oa,T.n ta,T.n va,.s na,.sl 6 la],.ag [T.n kb,T.n ob,T.n tb,T.n vb,.s nb,.sl 6 lb],.ag [T.n kc,T.n oc,T.n tc,T.n vc,.s nc,.sl 6 lc]]),.cp [T.n kc,T.n oc,T.n tc,T.n vc,.s nc,.sl 6 lc] 0,.t (.ag [T.n kc,T.n oc,T.n tc,T.n vc,.s nc,.sl 6 lc]),.s gc,.s ([105,102,32]++ga++[32,116,104,101,110,32]++gb++[32,101,108,115,101,32]++gc),.s ([105,102,32]++ga++[32,116,104,101,110,32]++gb++[32,101,108,115,101,32]++gc)] ?_ ?_
  ·repeat' (first|refine wkt ?_|refine wd sa ?_|refine wd sb ?_|refine wd sc ?_|refine zqe ?_|refine zqc ?_|exact trivial|exact⟨⟨rfl,rfl⟩,trivial⟩|refine qai (fun env=>?_) ?_|refine wk ?_|exact wkc|intro hc|refine wk2 ?_ ?_|fail)
   done
  ·repeat' (first|refine wu ?_|exact wkc|intro hc|refine wk2 ?_ ?_|fail)
   exact zwfr
 ·have hn:=h5 (.inl rfl)
  obtain⟨a,rfl⟩:=qbC.1 hn
  refine hsh ([112,114,101,32]++grS f a) rfl ?_
  clear hop hme hca hva h4 h5 h6 hsh
  have sa:=hg a (qak ..)
  have qa:=hgl a (qak ..)
  clear hf hl hg hgl
  unfold ShC at*
  dsimp only[List.map]
  rw[zae a]
  generalize grS f a=ga at*
  obtain⟨ka,oa,ta,va,na,la'⟩:=a
  rw[zbA ka]at*
  generalize la'.map exT=la at*
  refine so Tryz.func18 ?_
  refine wkt ?_
  refine zqj ?_
  repeat' (first|refine wkt ?_|exact wkc|intro hc|refine wk2 ?_ ?_|fail)
  refine rgS [wr es,.cp [T.i 5,T.n o,T.n t,T.n v,.s nm,.sl 6 [.ag [T.n ka,T.n oa,T.n ta,T.n va,.s na,.sl 6 la]]] 5,.t (.sl 6 [.ag [T.n ka,T.n oa,T.n ta,T.n va,.s na,.sl 6 la]]),.cp [T.n ka,T.n oa,T.n ta,T.n va,.s na,.sl 6 la] 0,.t (.ag [T.n ka,T.n oa,T.n ta,T.n va,.s na,.sl 6 la]),.s ga,.s ([112,114,101,32]++ga),.s ([112,114,101,32]++ga)] ?_ ?_
  ·repeat' (first|refine wkt ?_|refine wd sa ?_|refine zqe ?_|refine zqc ?_|exact trivial|exact⟨⟨rfl,rfl⟩,trivial⟩|refine qai (fun env=>?_) ?_|refine wk ?_|exact wkc|intro hc|refine wk2 ?_ ?_|fail)
   done
  ·repeat' (first|refine wu ?_|exact wkc|intro hc|refine wk2 ?_ ?_|fail)
   exact zwfr
 ·have hn:=h6 (.inl rfl)
  obtain⟨a,b,rfl⟩:=len2 hn
  refine hsh (grS f a++[32,45,62,32]++grS f b) rfl ?_
  clear hop hme hca hva h4 h5 h6 hsh
  have sa:=hg a (qak ..)
  have qa:=hgl a (qak ..)
  have sb:=hg b (qan _ (qak ..))
  have qb:=hgl b (qan _ (qak ..))
  clear hf hl hg hgl
  unfold ShC at*
  dsimp only[List.map]
  rw[zae a,zae b]
  generalize grS f a=ga at*
  obtain⟨ka,oa,ta,va,na,la'⟩:=a
  rw[zbA ka]at*
  generalize la'.map exT=la at*
  generalize grS f b=gb at*
  obtain⟨kb,ob,tb,vb,nb,lb'⟩:=b
  rw[zbA kb]at*
  generalize lb'.map exT=lb at*
  refine so Tryz.func18 ?_
  refine wkt ?_
  refine zqj ?_
  repeat' (first|refine wkt ?_|exact wkc|intro hc|refine wk2 ?_ ?_|fail)
  refine rgS [wr es,.cp [T.i 6,T.n o,T.n t,T.n v,.s nm,.sl 6 [.ag [T.n ka,T.n oa,T.n ta,T.n va,.s na,.sl 6 la],.ag [T.n kb,T.n ob,T.n tb,T.n vb,.s nb,.sl 6 lb]]] 5,.t (.sl 6 [.ag [T.n ka,T.n oa,T.n ta,T.n va,.s na,.sl 6 la],.ag [T.n kb,T.n ob,T.n tb,T.n vb,.s nb,.sl 6 lb]]),.cp [T.n ka,T.n oa,T.n ta,T.n va,.s na,.sl 6 la] 0,.t (.ag [T.n ka,T.n oa,T.n ta,T.n va,.s na,.sl 6 la]),.s ga,.s (ga++[32,45,62,32]),wr es,.cp [T.i 6,T.n o,T.n t,T.n v,.s nm,.sl 6 [.ag [T.n ka,T.n oa,T.n ta,T.n va,.s na,.sl 6 la],.ag [T.n kb,T.n ob,T.n tb,T.n vb,.s nb,.sl 6 lb]]] 5,.t (.sl 6 [.ag [T.n ka,T.n oa,T.n ta,T.n va,.s na,.sl 6 la],.ag [T.n kb,T.n ob,T.n tb,T.n vb,.s nb,.sl 6 lb]]),.cp [T.n kb,T.n ob,T.n tb,T.n vb,.s nb,.sl 6 lb] 0,.t (.ag [T.n kb,T.n ob,T.n tb,T.n vb,.s nb,.sl 6 lb]),.s gb,.s (ga++[32,45,62,32]++gb),.s (ga++[32,45,62,32]++gb)] ?_ ?_
  ·repeat' (first|refine wkt ?_|refine wd sa ?_|refine wd sb ?_|refine zqe ?_|refine zqc ?_|exact trivial|exact⟨⟨rfl,rfl⟩,trivial⟩|refine qai (fun env=>?_) ?_|refine wk ?_|exact wkc|intro hc|refine wk2 ?_ ?_|fail)
   done
  ·repeat' (first|refine wu ?_|exact wkc|intro hc|refine wk2 ?_ ?_|fail)
   exact zwfr
 ·have hn:=h6 (.inr rfl)
  obtain⟨a,b,rfl⟩:=len2 hn
  refine hsh (grS f a++[32,102,98,121,32]++grS f b) rfl ?_
  clear hop hme hca hva h4 h5 h6 hsh
  have sa:=hg a (qak ..)
  have qa:=hgl a (qak ..)
  have sb:=hg b (qan _ (qak ..))
  have qb:=hgl b (qan _ (qak ..))
  clear hf hl hg hgl
  unfold ShC at*
  dsimp only[List.map]
  rw[zae a,zae b]
  generalize grS f a=ga at*
  obtain⟨ka,oa,ta,va,na,la'⟩:=a
  rw[zbA ka]at*
  generalize la'.map exT=la at*
  generalize grS f b=gb at*
  obtain⟨kb,ob,tb,vb,nb,lb'⟩:=b
  rw[zbA kb]at*
  generalize lb'.map exT=lb at*
  refine so Tryz.func18 ?_
  refine wkt ?_
  refine zqj ?_
  repeat' (first|refine wkt ?_|exact wkc|intro hc|refine wk2 ?_ ?_|fail)
  refine rgS [wr es,.cp [T.i 7,T.n o,T.n t,T.n v,.s nm,.sl 6 [.ag [T.n ka,T.n oa,T.n ta,T.n va,.s na,.sl 6 la],.ag [T.n kb,T.n ob,T.n tb,T.n vb,.s nb,.sl 6 lb]]] 5,.t (.sl 6 [.ag [T.n ka,T.n oa,T.n ta,T.n va,.s na,.sl 6 la],.ag [T.n kb,T.n ob,T.n tb,T.n vb,.s nb,.sl 6 lb]]),.cp [T.n ka,T.n oa,T.n ta,T.n va,.s na,.sl 6 la] 0,.t (.ag [T.n ka,T.n oa,T.n ta,T.n va,.s na,.sl 6 la]),.s ga,.s (ga++[32,102,98,121,32]),wr es,.cp [T.i 7,T.n o,T.n t,T.n v,.s nm,.sl 6 [.ag [T.n ka,T.n oa,T.n ta,T.n va,.s na,.sl 6 la],.ag [T.n kb,T.n ob,T.n tb,T.n vb,.s nb,.sl 6 lb]]] 5,.t (.sl 6 [.ag [T.n ka,T.n oa,T.n ta,T.n va,.s na,.sl 6 la],.ag [T.n kb,T.n ob,T.n tb,T.n vb,.s nb,.sl 6 lb]]),.cp [T.n kb,T.n ob,T.n tb,T.n vb,.s nb,.sl 6 lb] 0,.t (.ag [T.n kb,T.n ob,T.n tb,T.n vb,.s nb,.sl 6 lb]),.s gb,.s (ga++[32,102,98,121,32]++gb),.s (ga++[32,102,98,121,32]++gb)] ?_ ?_
  ·repeat' (first|refine wkt ?_|refine wd sa ?_|refine wd sb ?_|refine zqe ?_|refine zqc ?_|exact trivial|exact⟨⟨rfl,rfl⟩,trivial⟩|refine qai (fun env=>?_) ?_|refine wk ?_|exact wkc|intro hc|refine wk2 ?_ ?_|fail)
   done
  ·repeat' (first|refine wu ?_|exact wkc|intro hc|refine wk2 ?_ ?_|fail)
   exact zwfr
 ·have hn:=h5 (.inr rfl)
  obtain⟨a,rfl⟩:=qbC.1 hn
  refine hsh (grS f a++[32]++smpS es ⟨nm,t,v⟩) rfl ?_
  clear hop hme hca hva h4 h5 h6 hsh
  unfold onT at hsm
  dsimp only at hsm
  generalize smpS es ⟨nm,t,v⟩=z at*
  have sa:=hg a (qak ..)
  have qa:=hgl a (qak ..)
  clear hf hl hg hgl
  unfold ShC at*
  dsimp only[List.map]
  rw[zae a]
  generalize grS f a=ga at*
  obtain⟨ka,oa,ta,va,na,la'⟩:=a
  rw[zbA ka]at*
  generalize la'.map exT=la at*
  refine so Tryz.func18 ?_
  refine wkt ?_
  refine zqj ?_
  repeat' (first|refine wkt ?_|exact wkc|intro hc|refine wk2 ?_ ?_|fail)
  refine rgS [wr es,.cp [T.i 8,T.n o,T.n t,T.n v,.s nm,.sl 6 [.ag [T.n ka,T.n oa,T.n ta,T.n va,.s na,.sl 6 la]]] 5,.t (.sl 6 [.ag [T.n ka,T.n oa,T.n ta,T.n va,.s na,.sl 6 la]]),.cp [T.n ka,T.n oa,T.n ta,T.n va,.s na,.sl 6 la] 0,.t (.ag [T.n ka,T.n oa,T.n ta,T.n va,.s na,.sl 6 la]),.s ga,.s (ga++[32]),wr es,.cp [T.i 8,T.n o,T.n t,T.n v,.s nm,.sl 6 [.ag [T.n ka,T.n oa,T.n ta,T.n va,.s na,.sl 6 la]]] 4,.s nm,.cp [T.i 8,T.n o,T.n t,T.n v,.s nm,.sl 6 [.ag [T.n ka,T.n oa,T.n ta,T.n va,.s na,.sl 6 la]]] 2,.n t,.cp [T.i 8,T.n o,T.n t,T.n v,.s nm,.sl 6 [.ag [T.n ka,T.n oa,T.n ta,T.n va,.s na,.sl 6 la]]] 3,.n v,.t (.ag [.s nm,T.n t,T.n v]),.s z,.s (ga++[32]++z),.s (ga++[32]++z)] ?_ ?_
  ·repeat' (first|refine wkt ?_|refine wd sa ?_|refine wd hsm ?_|refine zqe ?_|refine zqc ?_|exact trivial|exact⟨⟨rfl,rfl⟩,trivial⟩|refine qai (fun env=>?_) ?_|refine wk ?_|exact wkc|intro hc|refine wk2 ?_ ?_|fail)
   done
  ·repeat' (first|refine wu ?_|exact wkc|intro hc|refine wk2 ?_ ?_|fail)
   exact zwfr
 ·refine hsh (zbc es f t.1 args ([109,101,114,103,101,32]++nm) args.length) rfl ?_
  have hs:=hme rfl
  unfold ShC at hs
  rw[zbA]at hs
  generalize zbc es f t.1 args ([109,101,114,103,101,32]++nm) args.length=z at*
  exact zww
 ·refine hsh (zeX f v.1 nm args) rfl ?_
  have hs:=hca rfl
  unfold ShC at hs
  rw[zbA]at hs
  generalize zeX f v.1 nm args=z at*
  exact zww
 ·refine hsh ([39]++nm++[39]) rfl ?_
  generalize args.map exT=la at*
  clear hop hme hca hf hg hsm hva
  refine so Tryz.func18 ?_
  refine wkt ?_
  refine zqj ?_
  repeat' (first|refine wkt ?_|refine zqc ?_|exact wkc|intro hc|refine wk2 ?_ ?_|refine wk ?_|fail)
  exact zwfr
theorem zcn{es:List En}(h:ShE es):∀(m:Nat) (e:Ex),ShOk e->wEx e≤m->m≤80000->ShC 18 es e (shF es m e)
 | 0,e,_,hm,_=>by have:=zb7 e;omega
 | m+1,e,he,hm,hb=>by
   rw[shF]
   refine zrK h he.self (fun x hx=>zcn h m x (he.arg hx) (by have:=zcg hx;omega) (by omega)) fun x hx=>?_
   have h1:=zhS h m x (he.arg hx)
   have h2:wEx x≤80000:=by have:=zcg hx;omega
   have h3:wEx x*12000100≤80000*12000100:=qaD _ h2
   omega
end Go.Proofs.YthmbhfgflijapaaGreatDoor
