import Derived.Test.YtdicfgideclbdaaGreatDoorAk35
set_option maxHeartbeats 64000000
set_option linter.all false
namespace Go.Proofs.YtdicfgideclbdaaGreatDoor
open Go Go.TL
attribute [local irreducible] TR TO Then zaj RetK Sound zac Kf GG zaQ
variable {α:Type}{es:List En}{f:Ex->Str}{e:Ex}
theorem zpN(o:Int):(symS o).length≤3:=by
 unfold symS;cases h:symL.find? fun e=>decide (e.1=o) with
 | none=>exact leB
 | some e=>
   have:=qb9 h
   have hh:∀e∈symL,e.2.length≤3:=oB
   exact hh e this
theorem zbx(k o t v:I64)(n:Str)(l:List Ex):exC (.mk k o t v n l)=[T.n k,T.n o,T.n t,T.n v,.s n,.sl 6 (l.map exT)]:=rfl
theorem len2{l:List α}(h:l.length=2):∃a b,l=[a,b]:=by
 match l,h with
 | [a,b],_=>exact⟨a,b,rfl⟩
theorem len3{l:List α}(h:l.length=3):∃a b c,l=[a,b,c]:=by
 match l,h with
 | [a,b,c],_=>exact⟨a,b,c,rfl⟩
theorem zmg(f:Ex->Str)(o:Int)(a:Ex):zhm f o [a]=if o=1 then[110,111,116,32]++grS f a else if a.kind.1=1/\a.t.1=2 then[45,40]++f a++[41] else[45]++grS f a:=rfl
theorem zmh(f:Ex->Str)(o:Int)(a b:Ex):zhm f o [a,b]=grS f a++[32]++symS o++[32]++grS f b:=rfl
theorem zja    (hA:ShA e) (h3:e.kind.1=3) (hf:∀x∈e.args,ShC 43 es x (f x)) (hl:∀x∈e.args,(f x).length≤100000000000000):
  ShC 92 es e (zhm f e.op.1 e.args):=by
 obtain⟨ho1,ho2,hn⟩:=hA.o3 h3;have hg:∀x∈e.args,ShC 93 es x (grS f x):=fun x hx=>zel (hf x hx) (qax (hl x hx) oB)
 have hgl:∀x∈e.args,(grS f x).length≤100000000000002:=fun x hx=>by
  exact zwcs
 obtain⟨k,o,t,v,nm,args⟩:=e;clear hA;dsimp only[Ex.kind,Ex.op,Ex.args]at*;unfold opdI at hn;by_cases h12:o.1=1\/o.1=2
 ·rw[oG h12]at hn;obtain⟨a,rfl⟩:∃a,args=[a]:=qbP.1 oA;have hf:=hf a (qbl.2 rfl);have hg:=hg a (qbl.2 rfl);have hl:=hl a (qbl.2 rfl);have hgl:=hgl a (qbl.2 rfl);generalize hz:zhm f o.1 [a]=z;rw[zmg]at hz;by_cases h1:o.1=1
  ·rw[oG h1]at hz;unfold ShC at*;rw[zbx];dsimp only[List.map];rw[zan];generalize f a=s at*;generalize grS f a=g at*;subst hz;obtain⟨⟨k',kk1,kk2⟩,o',⟨t',tt1,tt2⟩,v',n',l'⟩:=a;obtain⟨o,oo1,oo2⟩:=o;rw[zbx]at*;dsimp only[Ex.kind,Ex.t]at*;generalize l'.map exT=la at*;subst h1;exact zwbw
  have h2:o.1=2:=oA
  rw[oH h1]at hz;by_cases hc:a.kind.1=1/\a.t.1=2
  ·rw[oG hc]at hz;unfold ShC at*;rw[zbx];dsimp only[List.map];rw[zan];generalize f a=s at*;generalize grS f a=g at*;subst hz;obtain⟨⟨k',kk1,kk2⟩,o',⟨t',tt1,tt2⟩,v',n',l'⟩:=a;obtain⟨o,oo1,oo2⟩:=o;rw[zbx]at*;dsimp only[Ex.kind,Ex.t]at*;generalize l'.map exT=la at*;subst h2;obtain⟨rfl,rfl⟩:=hc;exact zwbw
  ·rw[oH hc]at hz;unfold ShC at*;rw[zbx];dsimp only[List.map];rw[zan];generalize f a=s at*;generalize grS f a=g at*;subst hz;obtain⟨⟨k',kk1,kk2⟩,o',⟨t',tt1,tt2⟩,v',n',l'⟩:=a;obtain⟨o,oo1,oo2⟩:=o;rw[zbx]at*;dsimp only[Ex.kind,Ex.t]at*;generalize l'.map exT=la at*;subst h2;by_cases hk:k'=1
   ·subst hk;have ht:t'≠2:=fun h=>hc ⟨rfl,h⟩
    exact zwbw
   ·exact zwbw
 ·rw[oH h12]at hn;obtain⟨a,b,rfl⟩:∃a b,args=[a,b]:=len2 oA;have hga:=hg a (qah ..);have hgb:=hg b (qai _ (qah ..));have hla:=hgl a (qah ..);have hlb:=hgl b (qai _ (qah ..));have hs:=zpN o.1;clear hf hl hg hgl hn h3;rw[zmh];unfold ShC at*;rw[zbx];dsimp only[List.map];rw[zan,zan];generalize grS f a=ga at*;generalize grS f b=gb at*;obtain⟨k',o',t',v',n',l'⟩:=a;obtain⟨k2,o2,t2,v2,n2,l2⟩:=b;simp only[zbx]at*;generalize l'.map exT=la at*;generalize l2.map exT=lb at*;have h1:o.1≠1:=fun h=>h12 (.inl h)
  have h2:o.1≠2:=fun h=>h12 (.inr h)
  have ho:3≤o.1/\o.1≤16:=oA
  clear h12;refine so Tryz.func92 ?_;refine wkt ?_;refine zqj ?_;repeat' (first|refine wkt ?_|refine zqf ?_|exact wkc|refine wk2 ?_ ?_|intro hc)
  refine rgS [wr es,.t (.ag [T.n k',T.n o',T.n t',T.n v',.s n',.sl 6 la]),.s ga,.s (ga++[32]),.ref 1 1,.mp 0,.cp [T.n k,T.n o,T.n t,T.n v,.s nm,.sl 6 [.ag [T.n k',T.n o',T.n t',T.n v',.s n',.sl 6 la],.ag [T.n k2,T.n o2,T.n t2,T.n v2,.s n2,.sl 6 lb]]] 1,.n o,.s (symS o.1),.s (ga++[32]++symS o.1),.s (ga++[32]++symS o.1++[32]),wr es,.cp [T.n k,T.n o,T.n t,T.n v,.s nm,.sl 6 [.ag [T.n k',T.n o',T.n t',T.n v',.s n',.sl 6 la],.ag [T.n k2,T.n o2,T.n t2,T.n v2,.s n2,.sl 6 lb]]] 5,.t (.sl 6 [.ag [T.n k',T.n o',T.n t',T.n v',.s n',.sl 6 la],.ag [T.n k2,T.n o2,T.n t2,T.n v2,.s n2,.sl 6 lb]]),.cp [T.n k2,T.n o2,T.n t2,T.n v2,.s n2,.sl 6 lb] 0,.t (.ag [T.n k2,T.n o2,T.n t2,T.n v2,.s n2,.sl 6 lb]),.s gb,.s (ga++[32]++symS o.1++[32]++gb),.s (ga++[32]++symS o.1++[32]++gb)] ?_ ?_
  ·repeat' (first|refine wkt ?_|refine wd hga ?_|refine wd hgb ?_|refine TO.zz9 rfl rfl rfl rfl ho ?_|refine zqf ?_|refine zqd ?_|exact trivial|exact⟨⟨rfl,rfl⟩,trivial⟩|refine qav (fun env=>?_) ?_|refine wk ?_|exact wkc|refine wk2 ?_ ?_|intro hc)
   done
  ·exact zweg
theorem zcL(sep:Str)(B:Nat):∀l:List Str,(∀x∈l,x.length≤B)->(Go.Lib.join l sep).length≤l.length*(B+sep.length)
 | [],_=>by simp[Go.Lib.join]
 | [x],h=>by
   have:=h x (qbl.2 rfl)
   simp[Go.Lib.join];omega
 | x::y::l,h=>by
   have h1:=h x (qah ..);have h2:=zcL sep B (y::l) fun z hz=>h z (qai _ hz)
   have e:(Go.Lib.join (x::y::l) sep).length=x.length+sep.length+(Go.Lib.join (y::l) sep).length:=by
    simp[Go.Lib.join];try omega
   rw[e,qae,qb7];omega
def zfO(es:List En)(ck:List OnC):Str:=Go.Lib.join (ck.map (smpS es)) [32]
theorem zg1  (h:ShE es) (ck:List OnC) (hn:∀o∈ck,o.name.length≤3000000) (hl:ck.length≤1000000):Sound Tryz.prog 45 [wr es,.t (.sl 3 (ck.map onT))] [symB] (fun r H'=>r= .ret (.s (zfO es ck))/\H'=[symB]):=by
 have hml:(ck.map onT).length=ck.length:=qac _
 have hj:=zcx (ck.map (smpS es)) [32] (by rw[qac];omega) (by
  refine qax (zcL [32] 6000040 _ fun x hx=>?_) ?_
  ·obtain⟨o,ho,rfl⟩:=qaL.1 hx;exact zkX h o (hn o ho)
  ·rw[qac];exact qax (qaH _ hl) oB)
 unfold zfO;have hjm:(ck.map (smpS es)).map T.s=ck.map fun o=>T.s (smpS es o):=by rw[qa0];rfl
 rw[hjm]at hj;generalize Go.Lib.join (ck.map (smpS es)) [32]=z at*;refine so Tryz.func45 ?_;refine wkt ?_;refine zqj ?_;repeat' (first|refine wkt ?_|fail)
 refine TR.tail 1 5 rfl ?_;refine TR.zaz ck.length (fun _=>True) (fun j=>[(2,.ref 1 0),(5,.sl 1 ((ck.take j).map fun o=>T.s (smpS es o)) 2),(8,.t (.sl 3 (ck.map onT))),(9,.i ck.length),(10,.i j)]) (fun j=>[symB,.cells [.t (ensT es),.mp 0],.tail ((ck.take j).map fun o=>T.s (smpS es o)).length]) trivial (fun j hlt _=>?_) (fun _=>?_) ⟨rfl,rfl,rfl,by rw[<-hml];rfl,rfl,trivial⟩ rfl
 ·have hx:=zbc onT hlt;have htk:=zbg hlt;have hs:=zfo h ck[j] (hn _ (qak hlt));have hlen:((ck.take j).map fun o=>T.s (smpS es o)).length≤1000000:=by rw[qac,qba];omega
  generalize ck[j]=o at*;obtain⟨nm,t,v⟩:=o;dsimp only[onT]at hx hs;refine yc hs ?_;exact zac.zaH hlt trivial (by(try dsimp only);rw[htk,qaw];exact⟨rfl,rfl,rfl,rfl,rfl,trivial⟩) (by(try dsimp only);rw[htk,qaw];simp)
 ·exact zwcz
theorem rgW{n:Nat}{env0 envF:Env}{H0:Heap}{K:TK}{id':Nat}{l:List Oper}(w:List Nat)(t:List SV)
  (hp:zi0 Tryz.prog n K True l.toArray (zaC env0 w++zaM l.toArray t env0) H0 l (t.map fun v=>(v,false)))(hK:K .normal envF H0)
  (hw:w.all (fun t=>(env0.look t).isSome)=true:=by rfl)(hB:mixW w l.toArray (t.map fun _=>false)=true:=by dsimp only[List.map];decide +kernel)(hne:0<l.length:=by decide)(hE:za7 (zaM l.toArray t env0)=some envF:=by exact rfl):
  TR Tryz.prog n (.region id' l.toArray true) env0 H0 K:=by
 have e1:(t.map fun v=>(v,false)).map (·.1)=t:=by rw[qa0];exact qcG t
 have e2:(t.map fun v=>(v,false)).map (·.2)=t.map fun _=>false:=by rw[qa0];rfl
 exact TR.zpy w (t.map fun v=>(v,false)) hmix hw (by rw[e2];exact hB) (by rw[e1];exact hp) (by rw[e1];exact hE) hne fun _=>hK
theorem zgB{es:List En}{f:Ex->Str}{args:List Ex}(h:ShE es)(hl:∀x∈args,(f x).length≤100000000000000)(t:I64)(s:Str):∀i:Nat,i≤64->(zbl es f t.1 args s i).length≤s.length+i*100000003000040
 | 0,_=>by simp[zbl]
 | i+1,hi=>by
   have ih:=zgB h hl t s i oA;have hb:-9223372036854775808≤brV t.1 i/\brV t.1 i≤9223372036854775807:=by unfold brV;split <;> omega
   have hv:(valS es t.1 (brV t.1 i)).length≤3000030:=zff h t ⟨brV t.1 i,hb⟩
   have hg:(((args[(brV t.1 i).toNat]?).map f).getD []).length≤100000000000000:=by
    cases hx:args[(brV t.1 i).toNat]? with
    | none=>exact qaM _
    | some x=>exact hl x (qau hx)
   rw[zbl];exact zwex
theorem znL    (h:ShE es) (hA:ShA e) (h9:e.kind.1=9) (hf:∀x∈e.args,ShC 43 es x (f x)) (hl:∀x∈e.args,(f x).length≤100000000000000):
  ShC 95 es e (zbl es f e.t.1 e.args ([109,101,114,103,101,32]++e.name) e.args.length):=by
 have hn:=hA.k9 h9;have hnm:=hA.name;have hfew:=hA.few;obtain⟨k,o,t,v,nm,args⟩:=e;clear hA;dsimp only[Ex.kind,Ex.t,Ex.args,Ex.name]at*;have hml:(args.map exT).length=args.length:=qac _;show Sound _ _ _ _ _;rw[zbx];by_cases ht:t.1=1
 ·have hn:=hn ht;obtain⟨t,tt1,tt2⟩:=t;dsimp only at ht;subst ht;refine so Tryz.func95 ?_;refine wkt ?_;refine zqj ?_;repeat' (first|refine wkt ?_|refine zqd ?_|fail)
  refine TR.zaz args.length (fun _=>True) (fun j=>[(2,.ref 1 0),(3,.cp [T.n k,T.n o,T.i 1,T.n v,.s nm,.sl 6 (args.map exT)] 0),(5,.s (zbl es f (1:Int) args ([109,101,114,103,101,32]++nm) j)),(13,.i args.length),(14,.i j)]) (fun j=>[symB,.cells [.t (ensT es),.mp 0]]) trivial (fun j hlt _=>?_) (fun _=>?_) ⟨rfl,rfl,rfl,by rw[<-hml];rfl,rfl,trivial⟩ rfl
  ·have hlt2:(1-(j:Int)).toNat<args.length:=oA
   have hx:=zeA hlt2;have hs:=hf _ (qak hlt2);have hgl:=hl _ (qak hlt2);have hal:=zgB h hl ⟨1,oB⟩ ([109,101,114,103,101,32]++nm) j oA;have hval:Sound Tryz.prog 91 [wr es,.i 1,.i (1-(j:Int))] [symB] (fun r H'=>r= .ret (.s (valS es (1:Int) (1-(j:Int))))/\H'=[symB]):=zdB h ⟨1,oB⟩ ⟨1-(j:Int),oA⟩;have hzl:(valS es (1:Int) (1-(j:Int))).length≤3000030:=zff h ⟨1,oB⟩ ⟨1-(j:Int),oA⟩
   have hst:zbl es f (1:Int) args ([109,101,114,103,101,32]++nm) (j+1)=zbl es f (1:Int) args ([109,101,114,103,101,32]++nm) j++([32,40]++valS es (1:Int) (1-(j:Int))++[32,45,62,32]++f args[(1-(j:Int)).toNat]++[41]):=by
    rw[zbl,show brV (1:Int) j=1-(j:Int) from rfl,qad hlt2];rfl
   have hac:(zbl es f (1:Int) args ([109,101,114,103,101,32]++nm) j).length≤10000000000000000:=by
    exact zwbq
   clear hal;generalize valS es (1:Int) (1-(j:Int))=z at*;generalize zbl es f (1:Int) args ([109,101,114,103,101,32]++nm) j=acc at*;generalize args[(1-(j:Int)).toNat]=x at*;unfold ShC at hs;generalize f x=g at*;obtain⟨k',o',t',v',n',l'⟩:=x;rw[zbx]at hx hs;generalize l'.map exT=la at*;repeat' (first|refine wkt ?_|(apply TO.zoa;(iterate 3 exact rfl);omega;omega)|exact wkc|refine wk2 ?_ ?_|intro hc)
   refine rgW [5] [.s acc,wr es,.cp [T.n k,T.n o,T.i 1,T.n v,.s nm,.sl 6 (args.map exT)] 2,.i 1,.i (1-(j:Int)),.s z,.s ([32,40]++z),.s ([32,40]++z++[32,45,62,32]),wr es,.cp [T.n k,T.n o,T.i 1,T.n v,.s nm,.sl 6 (args.map exT)] 5,.t (.sl 6 (args.map exT)),.i (1-(j:Int)),.cp [T.n k',T.n o',T.n t',T.n v',.s n',.sl 6 la] 0,.t (.ag [T.n k',T.n o',T.n t',T.n v',.s n',.sl 6 la]),.s g,.s ([32,40]++z++[32,45,62,32]++g),.s ([32,40]++z++[32,45,62,32]++g++[41]),.s (acc++([32,40]++z++[32,45,62,32]++g++[41])),.s (acc++([32,40]++z++[32,45,62,32]++g++[41]))] ?_ ?_
   ·repeat' (first|refine wkt ?_|refine wd hs ?_|refine wd hval ?_|refine zqg ?_|refine zqd ?_|exact trivial|exact⟨⟨rfl,rfl⟩,trivial⟩|refine qav (fun env=>?_) ?_|refine wk ?_|exact wkc|refine wk2 ?_ ?_|intro hc)
    done
   ·exact zwcq
  ·exact zweg
 ·have hbr:∀i:Nat,brV t.1 i=i:=fun i=>oH ht
  refine so Tryz.func95 ?_;refine wkt ?_;refine zqj ?_;repeat' (first|refine wkt ?_|refine zqd ?_|fail)
  refine TR.zaz args.length (fun _=>True) (fun j=>[(2,.ref 1 0),(3,.cp [T.n k,T.n o,T.n t,T.n v,.s nm,.sl 6 (args.map exT)] 0),(5,.s (zbl es f t.1 args ([109,101,114,103,101,32]++nm) j)),(13,.i args.length),(14,.i j)]) (fun j=>[symB,.cells [.t (ensT es),.mp 0]]) trivial (fun j hlt _=>?_) (fun _=>?_) ⟨rfl,rfl,rfl,by rw[<-hml];rfl,rfl,trivial⟩ rfl
  ·have hlt2:((j:Int)).toNat<args.length:=oA
   have hx:=zeA hlt2;have hs:=hf _ (qak hlt2);have hgl:=hl _ (qak hlt2);have hal:=zgB h hl t ([109,101,114,103,101,32]++nm) j oA;have hval:Sound Tryz.prog 91 [wr es,.n t,.i ((j:Int))] [symB] (fun r H'=>r= .ret (.s (valS es t.1 ((j:Int))))/\H'=[symB]):=zdB h t ⟨(j:Int),oA⟩;have hzl:(valS es t.1 ((j:Int))).length≤3000030:=zff h t ⟨(j:Int),oA⟩
   have hst:zbl es f t.1 args ([109,101,114,103,101,32]++nm) (j+1)=zbl es f t.1 args ([109,101,114,103,101,32]++nm) j++([32,40]++valS es t.1 ((j:Int))++[32,45,62,32]++f args[((j:Int)).toNat]++[41]):=by
    rw[zbl,hbr,qad hlt2];rfl
   have hac:(zbl es f t.1 args ([109,101,114,103,101,32]++nm) j).length≤10000000000000000:=by
    exact zwbq
   clear hal;generalize valS es t.1 ((j:Int))=z at*;generalize zbl es f t.1 args ([109,101,114,103,101,32]++nm) j=acc at*;generalize args[((j:Int)).toNat]=x at*;unfold ShC at hs;generalize f x=g at*;obtain⟨k',o',t',v',n',l'⟩:=x;rw[zbx]at hx hs;generalize l'.map exT=la at*;repeat' (first|refine wkt ?_|(apply TO.zoa;(iterate 3 exact rfl);omega;omega)|exact wkc|refine wk2 ?_ ?_|intro hc)
   refine rgW [5] [.s acc,wr es,.cp [T.n k,T.n o,T.n t,T.n v,.s nm,.sl 6 (args.map exT)] 2,.n t,.i ((j:Int)),.s z,.s ([32,40]++z),.s ([32,40]++z++[32,45,62,32]),wr es,.cp [T.n k,T.n o,T.n t,T.n v,.s nm,.sl 6 (args.map exT)] 5,.t (.sl 6 (args.map exT)),.i ((j:Int)),.cp [T.n k',T.n o',T.n t',T.n v',.s n',.sl 6 la] 0,.t (.ag [T.n k',T.n o',T.n t',T.n v',.s n',.sl 6 la]),.s g,.s ([32,40]++z++[32,45,62,32]++g),.s ([32,40]++z++[32,45,62,32]++g++[41]),.s (acc++([32,40]++z++[32,45,62,32]++g++[41])),.s (acc++([32,40]++z++[32,45,62,32]++g++[41]))] ?_ ?_
   ·repeat' (first|refine wkt ?_|refine wd hs ?_|refine wd hval ?_|refine zqg ?_|refine zqd ?_|exact trivial|exact⟨⟨rfl,rfl⟩,trivial⟩|refine qav (fun env=>?_) ?_|refine wk ?_|exact wkc|refine wk2 ?_ ?_|intro hc)
    done
   ·exact zwcq
  ·exact zweg
theorem znh    (hA:ShA e) (hk:e.kind.1=10) (hf:∀x∈e.args,ShC 43 es x (f x)) (hl:∀x∈e.args,(f x).length≤1000000000000):
  ShC 96 es e (zfs f e.v.1 e.name e.args):=by
 have hv:=hA.v10 hk;have hnm:=hA.name;have hfew:=hA.few;have hg:∀x∈e.args,ShC 93 es x (grS f x):=fun x hx=>zel (hf x hx) (qax (hl x hx) oB)
 have hgl:∀x∈e.args,(grS f x).length≤1000000000002:=fun x hx=>by
  exact zwcs
 obtain⟨k,o,t,v,nm,args⟩:=e;clear hA;dsimp only[Ex.kind,Ex.v,Ex.args,Ex.name]at*;have hml:(args.map exT).length=args.length:=qac _;obtain⟨v,vv1,vv2⟩:=v;dsimp only at hv⊢;show Sound _ _ _ _ _;rw[zbx];by_cases h1:v=1
 ·subst h1;have hn1:1≤args.length:=oA
  obtain⟨n,hn⟩:∃n,n=args.length-1:=⟨_,rfl⟩;have hlt3:n<args.length:=oA
  unfold zfs;rw[oG rfl,<-hn,qad hlt3];simp only[qaT,qbm];have hnv:((args.map exT).length:Int)-1=(n:Int):=by rw[hml];omega
  have hml2:((args.map exT).take n).length=n:=by rw[qba,hml];omega
  have hl2:(args.take n).length=n:=by rw[qba];omega
  have hmt:(args.map exT).take n=(args.take n).map exT:=(qbB ..).symm
  have hjl:(Go.Lib.join ((args.take n).map f) [44,32]).length≤64*1000000000002:=by
   exact zwr
  have hj:=zcx ((args.take n).map f) [44,32] (by rw[qac,hl2];omega) (qax hjl oB);rw[qa0]at hj;generalize Go.Lib.join ((args.take n).map f) [44,32]=jn at*;refine so Tryz.func96 ?_;refine wkt ?_;refine zqj ?_;repeat' (first|refine wkt ?_|(apply TO.zoa (b:=1);(iterate 3 exact rfl);omega;omega;rw[hnv])|(apply TO.zhE zaf (a:=0) (b:=n);(iterate 7 exact rfl);exact .inl ⟨rfl,rfl⟩;exact .inr ⟨_,_,rfl,rfl⟩;exact qaM _;(rw[hml];omega))|fail)
  refine TR.tail 1 6 rfl ?_;refine TR.zaz n (fun _=>True) (fun j=>[(2,.ref 1 0),(3,.cp [T.n k,T.n o,T.n t,T.i 1,.s nm,.sl 6 (args.map exT)] 0),(5,.i n),(6,.sl 1 (((args.take n).take j).map (T.s ∘ f)) 2),(19,.t (.sl 6 ((args.map exT).take n))),(20,.i n),(21,.i j)]) (fun j=>[symB,.cells [.t (ensT es),.mp 0],.tail (((args.take n).take j).map (T.s ∘ f)).length]) trivial (fun j hlt _=>?_) (fun _=>?_) ⟨rfl,rfl,rfl,rfl,rfl,(oJ (fun q:Nat=>some (SV.i q)) hml2),rfl,trivial⟩ rfl
  ·exact zwb
  ·rw[qaJ (Nat.le_of_eq hl2)];repeat' (first|refine wkt ?_|refine zac.exit ?_|exact wkc|refine wk2 ?_ ?_|intro hc)
   refine rgS [.cp [T.n k,T.n o,T.n t,T.i 1,.s nm,.sl 6 (args.map exT)] 4,.s nm,.s (nm++[40]),.sl 1 ((args.take n).map (T.s ∘ f)) 2,.s jn,.s (nm++[40]++jn),.s (nm++[40]++jn++[41]),.s (nm++[40]++jn++[41])] ?_ ?_
   ·repeat' (first|refine wkt ?_|refine wv hj ?_|refine zqd ?_|exact trivial|exact⟨⟨rfl,rfl⟩,trivial⟩|refine qav (fun env=>?_) ?_|refine wk ?_|exact wkc|refine wk2 ?_ ?_|intro hc)
    done
   ·have hs:=hg _ (qak hlt3);have hy:=hgl _ (qak hlt3);have hx:=zeA hlt3;unfold ShC at hs;generalize args[n]=x at*;generalize grS f x=g at*;obtain⟨k',o',t',v',n',l'⟩:=x;rw[zbx]at hx hs;generalize l'.map exT=la at*;repeat' (first|refine wkt ?_|exact wkc|refine wk2 ?_ ?_|intro hc)
    refine rgW [9] [.s (nm++[40]++jn++[41]),wr es,.cp [T.n k,T.n o,T.n t,T.i 1,.s nm,.sl 6 (args.map exT)] 5,.t (.sl 6 (args.map exT)),.i n,.cp [T.n k',T.n o',T.n t',T.n v',.s n',.sl 6 la] 0,.t (.ag [T.n k',T.n o',T.n t',T.n v',.s n',.sl 6 la]),.s g,.s ([32,101,118,101,114,121,32]++g),.s (nm++[40]++jn++[41]++([32,101,118,101,114,121,32]++g)),.s (nm++[40]++jn++[41]++([32,101,118,101,114,121,32]++g))] ?_ ?_
    ·repeat' (first|refine wkt ?_|refine wd hs ?_|refine zqd ?_|exact trivial|exact⟨⟨rfl,rfl⟩,trivial⟩|refine qav (fun env=>?_) ?_|refine wk ?_|exact wkc|refine wk2 ?_ ?_|intro hc)
     done
    ·exact zweg
 ·obtain rfl:v=0:=oA
  obtain⟨n,hn⟩:∃n,n=args.length:=⟨_,rfl⟩;unfold zfs;rw[oH oB];rw[show args.map f=(args.take n).map f by rw[hn,qap]];have hnv:((args.map exT).length:Int)-0=(n:Int):=by rw[hml];omega
  have hml2:((args.map exT).take n).length=n:=by rw[qba,hml];omega
  have hl2:(args.take n).length=n:=by rw[qba];omega
  have hmt:(args.map exT).take n=(args.take n).map exT:=(qbB ..).symm
  have hjl:(Go.Lib.join ((args.take n).map f) [44,32]).length≤64*1000000000002:=by
   exact zwr
  have hj:=zcx ((args.take n).map f) [44,32] (by rw[qac,hl2];omega) (qax hjl oB);rw[qa0]at hj;generalize Go.Lib.join ((args.take n).map f) [44,32]=jn at*;refine so Tryz.func96 ?_;refine wkt ?_;refine zqj ?_;repeat' (first|refine wkt ?_|(apply TO.zoa (b:=0);(iterate 3 exact rfl);omega;omega;rw[hnv])|(apply TO.zhE zaf (a:=0) (b:=n);(iterate 7 exact rfl);exact .inl ⟨rfl,rfl⟩;exact .inr ⟨_,_,rfl,rfl⟩;exact qaM _;(rw[hml];omega))|fail)
  refine TR.tail 1 6 rfl ?_;refine TR.zaz n (fun _=>True) (fun j=>[(2,.ref 1 0),(3,.cp [T.n k,T.n o,T.n t,T.i 0,.s nm,.sl 6 (args.map exT)] 0),(5,.i n),(6,.sl 1 (((args.take n).take j).map (T.s ∘ f)) 2),(19,.t (.sl 6 ((args.map exT).take n))),(20,.i n),(21,.i j)]) (fun j=>[symB,.cells [.t (ensT es),.mp 0],.tail (((args.take n).take j).map (T.s ∘ f)).length]) trivial (fun j hlt _=>?_) (fun _=>?_) ⟨rfl,rfl,rfl,rfl,rfl,(oJ (fun q:Nat=>some (SV.i q)) hml2),rfl,trivial⟩ rfl
  ·exact zwb
  ·rw[qaJ (Nat.le_of_eq hl2)];repeat' (first|refine wkt ?_|refine zac.exit ?_|exact wkc|refine wk2 ?_ ?_|intro hc)
   refine rgS [.cp [T.n k,T.n o,T.n t,T.i 0,.s nm,.sl 6 (args.map exT)] 4,.s nm,.s (nm++[40]),.sl 1 ((args.take n).map (T.s ∘ f)) 2,.s jn,.s (nm++[40]++jn),.s (nm++[40]++jn++[41]),.s (nm++[40]++jn++[41])] ?_ ?_
   ·repeat' (first|refine wkt ?_|refine wv hj ?_|refine zqd ?_|exact trivial|exact⟨⟨rfl,rfl⟩,trivial⟩|refine qav (fun env=>?_) ?_|refine wk ?_|exact wkc|refine wk2 ?_ ?_|intro hc)
    done
   ·exact zweg
theorem zkB(sep:Str):∀l:List Str,(Go.Lib.join l sep).length≤(l.map fun x=>x.length+sep.length).sum
 | []=>by simp[Go.Lib.join]
 | [x]=>by simp[Go.Lib.join]
 | x::y::l=>by
   have h2:=zkB sep (y::l)
   have e:(Go.Lib.join (x::y::l) sep).length=x.length+sep.length+(Go.Lib.join (y::l) sep).length:=by
    simp[Go.Lib.join];try omega
   rw[e,qaf,qaG];omega
def zdW(N:Nat)(f:Ex->Str)(l:List Ex):Nat:=(l.map fun x=>(f x).length+(N+40)).sum
theorem zaU(N:Nat)(f:Ex->Str)(x:Ex)(l:List Ex):zdW N f (x::l)=(f x).length+(N+40)+zdW N f l:=by simp[zdW]
theorem zsR(N:Nat)(f:Ex->Str)(l:List Ex)(x:Ex):zdW N f (l++[x])=zdW N f l+((f x).length+(N+40)):=by simp[zdW]
theorem zcN(N:Nat)(f:Ex->Str):zdW N f []=0:=rfl
theorem zc8(f:Ex->Str)(x:Ex):(grS f x).length≤(f x).length+2:=by
 unfold grS;split
 ·omega
 ·exact zwey
theorem zsO(N:Nat)(f:Ex->Str)(o:Int):∀l:List Ex,(zhm f o l).length≤10+zdW N f l
 | []=>qaM _
 | [a]=>by
   have:=zc8 f a
   rw[zaU,zcN];rw[zmg];split
   ·exact zwey
   split
   ·exact zwey
   ·exact zwey
 | [a,b]=>by
   have:=zc8 f a
   have:=zc8 f b
   have:=zpN o
   rw[zaU,zaU,zcN];rw[zmh];exact zwey
 | _::_::_::_=>qaM _
theorem zjI{N:Nat}{es:List En}{f:Ex->Str}{args:List Ex}(h:∀t v:I64,(valS es t.1 v.1).length≤N+30)(t:I64)(ht:t.1≠1)(s:Str):∀i:Nat,i≤args.length->i≤64->(zbl es f t.1 args s i).length≤s.length+zdW N f (args.take i)
 | 0,_,_=>by simp[zbl]
 | i+1,hi,hj=>by
   have ih:=zjI (f:=f) (args:=args) h t ht s i oA oA;have hb:brV t.1 i=i:=oH ht;have hv:(valS es t.1 (i:Int)).length≤N+30:=h t ⟨(i:Int),oA⟩;have hlt:i<args.length:=oA
   rw[zbl,hb,qcE,qad hlt,zbg hlt];rw[zsR];exact zwcy
theorem zqD{N:Nat}(h:∀t v:I64,(valS es t.1 v.1).length≤N+30)(hA:ShA e)(h9:e.kind.1=9)(s:Str):(zbl es f e.t.1 e.args s e.args.length).length≤s.length+zdW N f e.args:=by
 by_cases ht:e.t.1=1
 ·obtain⟨a,b,hab⟩:=len2 (hA.k9 h9 ht);have h0:=h ⟨1,oB⟩ ⟨0,oB⟩;have h1:=h ⟨1,oB⟩ ⟨1,oB⟩;rw[hab,ht,zaU,zaU,zcN];simp only[qae,qal,zbl,brV,if_true];simp;simp at h0 h1;omega
 ·have:=zjI h e.t ht s (args:=e.args) (f:=f) e.args.length (qag _) hA.few
  rw[qap]at this;exact this
theorem zjM(N:Nat)(f:Ex->Str):∀l:List Ex,(Go.Lib.join (l.map f) [44,32]).length≤zdW N f l:=by
 intro l;refine qax (zkB _ _) ?_;unfold zdW
 induction l with
 | nil=>exact qag _
 | cons x l ih=>
   simp only[qaf,qaG,qae,qal];simp only[qae,qal]at ih;omega
theorem zrx(N:Nat)(f:Ex->Str)(v:Int)(nm:Str)(args:List Ex):(zfs f v nm args).length≤nm.length+20+zdW N f args:=by
 unfold zfs;split
 ·by_cases h0:args=[]
  ·subst h0;simp[Go.Lib.join,zdW]
  ·have hlt:args.length-1<args.length:=by
    have:0<args.length:=qbf.2 h0
    omega
   have h1:=zjM N f (args.take (args.length-1));have h2:=zc8 f args[args.length-1]
   have e:zdW N f args=zdW N f (args.take (args.length-1))+((f args[args.length-1]).length+(N+40)):=by
    have htk:=zbg hlt;rw[show args.length-1+1=args.length by omega,qap]at htk;generalize args.take (args.length-1)=p at*;generalize args[args.length-1]=x at*;rw[htk];simp[zdW]
   rw[qad hlt,e];exact zwcy
 ·have h1:=zjM N f args;exact zwex
theorem zyi{N:Nat}(h:∀t v:I64,(valS es t.1 v.1).length≤N+30)(hA:ShA e)(hnm:e.name.length≤N):(shE es f e).length≤3*N+50+zdW N f e.args:=by
 have hv:=h e.t e.v;unfold shE;split
 ·omega
 split
 ·have:=zsO N f e.op.1 e.args;omega
 split
 ·rename_i h4;obtain⟨a,b,c,habc⟩:=len3 (hA.k4 h4);rw[habc,zaU,zaU,zaU,zcN];simp only[qab,qae,qal];omega
 split
 ·rename_i h5;obtain⟨a,ha⟩:=qbP.1 (hA.k5 (.inl h5))
  have:=zc8 f a
  rw[ha,zaU,zcN];simp only[qab,qae,qal];omega
 split
 ·rename_i h6;obtain⟨a,b,hab⟩:=len2 (hA.k6 (.inl h6))
  have:=zc8 f a
  have:=zc8 f b
  rw[hab,zaU,zaU,zcN];simp only[qab,qae,qal];omega
 split
 ·rename_i h7;obtain⟨a,b,hab⟩:=len2 (hA.k6 (.inr h7))
  have:=zc8 f a
  have:=zc8 f b
  rw[hab,zaU,zaU,zcN];simp only[qab,qae,qal];omega
 split
 ·rename_i h8;obtain⟨a,ha⟩:=qbP.1 (hA.k5 (.inr h8))
  have:=zc8 f a
  have hsm:(smpS es ⟨e.name,e.t,e.v⟩).length≤2*N+40:=by
   exact zweo
  rw[ha,zaU,zcN];simp only[qab,qae,qal];omega
 split
 ·rename_i h9
  have:=zqD (f:=f) h hA h9 ([109,101,114,103,101,32]++e.name)
  simp only[qab,qae,qal]at this⊢;omega
 split
 ·have:=zrx N f e.v.1 e.name e.args;omega
 split
 ·exact zwey
 ·omega
def ShOk(e:Ex):Prop:=∀x∈flat e,ShA x
theorem ShOk.self(h:ShOk e):ShA e:=h e (by rw[zb2];exact qah ..)
theorem ShOk.arg{x:Ex}(h:ShOk e)(hx:x∈e.args):ShOk x:=fun y hy=>h y (by
 rw[zb2];exact qai _ (qbR.2 ⟨flat x,qaL.2 ⟨x,hx,rfl⟩,hy⟩))
theorem zkT{N:Nat}{es:List En}(h:∀t v:I64,(valS es t.1 v.1).length≤N+30):∀(m:Nat) (e:Ex),ShOk e->(∀x∈flat e,x.name.length≤N)->(shF es m e).length+(N+40)≤wEx e*(4*N+100)
 | 0,e,_,_=>by
   have:=zcG e
   have:=qaH (4*N+100) this
   simp only[shF,qal];omega
 | m+1,e,he,hn=>by
   have h1:=zyi (f:=shF es m) h he.self (hn e (by rw[zb2];exact qah ..))
   have h2:zdW N (shF es m) e.args≤(e.args.map wEx).sum*(4*N+100):=by
    have hall:∀l:List Ex,(∀x∈l,ShOk x/\∀y∈flat x,y.name.length≤N)->zdW N (shF es m) l≤(l.map wEx).sum*(4*N+100):=by
     intro l
     induction l with
     | nil=>intro _;exact qaM _
     | cons x l ih=>
       intro hl;have h3:=zkT h m x (hl x (qah ..)).1 (hl x (qah ..)).2;have h4:=ih fun y hy=>hl y (qai _ hy)
       rw[zaU,qaf,qaG,qa3];omega
    exact hall _ fun x hx=>⟨he.arg hx,fun y hy=>hn y (by rw[zb2];exact qai _ (qbR.2 ⟨flat x,qaL.2 ⟨x,hx,rfl⟩,hy⟩))⟩
   rw[zgk,qa3];simp only[shF];omega
theorem ziD(h:ShE es)(m:Nat)(e:Ex)(he:ShOk e):(shF es m e).length+3000040≤wEx e*12000100:=zkT (N:=3000000) (zff h) m e he fun x hx=>(he x hx).name
theorem zus    (h:ShE es) (hA:ShA e) (hf:∀x∈e.args,ShC 43 es x (f x)) (hl:∀x∈e.args,(f x).length≤1000000000000):
  ShC 43 es e (shE es f e):=by
 have hop:=fun h3=>zja hA h3 hf fun x hx=>qax (hl x hx) oB
 have hme:=fun h9=>znL h hA h9 hf fun x hx=>qax (hl x hx) oB
 have hca:=fun h10=>znh hA h10 hf hl
 have hva:=zdB h e.t e.v;have hsm:=zfo h ⟨e.name,e.t,e.v⟩ hA.name;have hsl:=zkX h ⟨e.name,e.t,e.v⟩ hA.name;have hg:∀x∈e.args,ShC 93 es x (grS f x):=fun x hx=>zel (hf x hx) (qax (hl x hx) oB)
 have hgl:∀x∈e.args,(grS f x).length≤1000000000002:=fun x hx=>qax (zc8 f x) (by have:=hl x hx;omega)
 have hnm:=hA.name;have hk:=hA.kind;have h4:=hA.k4;have h5:=hA.k5;have h6:=hA.k6;clear hA;obtain⟨⟨k,kk1,kk2⟩,o,t,v,nm,args⟩:=e;dsimp only[Ex.kind,Ex.op,Ex.t,Ex.v,Ex.args,Ex.name]at*
 have hsh:∀s,shE es f (.mk ⟨k,kk1,kk2⟩ o t v nm args)=s->Sound Tryz.prog 43 [wr es,.t (.ag [T.i k,T.n o,T.n t,T.n v,.s nm,.sl 6 (args.map exT)])] [symB] (fun r H'=>r= .ret (.s s)/\H'=[symB])->ShC 43 es (.mk ⟨k,kk1,kk2⟩ o t v nm args) (shE es f (.mk ⟨k,kk1,kk2⟩ o t v nm args)):=fun s hs hq=>by
  rw[hs];exact hq
 rcases(by omega:k=1\/k=2\/k=3\/k=4\/k=5\/k=6\/k=7\/k=8\/k=9\/k=10\/k=11)with rfl|rfl|rfl|rfl|rfl|rfl|rfl|rfl|rfl|rfl|rfl
 ·refine hsh (valS es t.1 v.1) rfl ?_;generalize valS es t.1 v.1=z at*;generalize args.map exT=la at*;clear hop hme hca hf hg hsm;refine so Tryz.func43 ?_;refine wkt ?_;refine zqj ?_;refine yj hva ?_;exact zwfg
 ·refine hsh (nm) rfl ?_;generalize args.map exT=la at*;clear hop hme hca hf hg hsm hva;refine so Tryz.func43 ?_;refine wkt ?_;refine zqj ?_;repeat' (first|refine wkt ?_|exact wkc|refine wk2 ?_ ?_|refine wk ?_|intro hc)
  exact zwfg
 ·refine hsh (zhm f o.1 args) rfl ?_;have hs:=hop rfl;unfold ShC at hs;rw[zbx]at hs;generalize zhm f o.1 args=z at*;exact zwv
 ·have hn:=h4 rfl;obtain⟨a,b,c,rfl⟩:=len3 hn;refine hsh ([105,102,32]++f a++[32,116,104,101,110,32]++f b++[32,101,108,115,101,32]++f c) rfl ?_;clear hop hme hca hva h4 h5 h6 hsh;have sa:=hf a (qah ..);have qa:=hl a (qah ..);have sb:=hf b (qai _ (qah ..));have qb:=hl b (qai _ (qah ..));have sc:=hf c (qai _ (qai _ (qah ..)));have qc:=hl c (qai _ (qai _ (qah ..)));clear hf hl hg hgl;unfold ShC at*;dsimp only[List.map];rw[zan a,zan b,zan c];generalize f a=ga at*;obtain⟨ka,oa,ta,va,na,la'⟩:=a;rw[zbx ka]at*;generalize la'.map exT=la at*;generalize f b=gb at*;obtain⟨kb,ob,tb,vb,nb,lb'⟩:=b;rw[zbx kb]at*;generalize lb'.map exT=lb at*;generalize f c=gc at*;obtain⟨kc,oc,tc,vc,nc,lc'⟩:=c;rw[zbx kc]at*;generalize lc'.map exT=lc at*;refine so Tryz.func43 ?_;refine wkt ?_;refine zqj ?_;repeat' (first|refine wkt ?_|exact wkc|refine wk2 ?_ ?_|intro hc)
  refine rgS [wr es,.cp [T.i 4,T.n o,T.n t,T.n v,.s nm,.sl 6 [.ag [T.n ka,T.n oa,T.n ta,T.n va,.s na,.sl 6 la],.ag [T.n kb,T.n ob,T.n tb,T.n vb,.s nb,.sl 6 lb],.ag [T.n kc,T.n oc,T.n tc,T.n vc,.s nc,.sl 6 lc]]] 5,.t (.sl 6 [.ag [T.n ka,T.n oa,T.n ta,T.n va,.s na,.sl 6 la],.ag [T.n kb,T.n ob,T.n tb,T.n vb,.s nb,.sl 6 lb],.ag [T.n kc,T.n oc,T.n tc,T.n vc,.s nc,.sl 6 lc]]),.cp [T.n ka,T.n oa,T.n ta,T.n va,.s na,.sl 6 la] 0,.t (.ag [T.n ka,T.n oa,T.n ta,T.n va,.s na,.sl 6 la]),.s ga,.s ([105,102,32]++ga),.s ([105,102,32]++ga++[32,116,104,101,110,32]),wr es,.cp [T.i 4,T.n o,T.n t,T.n v,.s nm,.sl 6 [.ag [T.n ka,T.n oa,T.n ta,T.n va,.s na,.sl 6 la],.ag [T.n kb,T.n ob,T.n tb,T.n vb,.s nb,.sl 6 lb],.ag [T.n kc,T.n oc,T.n tc,T.n vc,.s nc,.sl 6 lc]]] 5,.t (.sl 6 [.ag [T.n ka,T.n oa,T.n ta,T.n va,.s na,.sl 6 la],.ag [T.n kb,T.n ob,T.n tb,T.n vb,.s nb,.sl 6 lb],.ag [T.n kc,T.n oc,T.n tc,T.n vc,.s nc,.sl 6 lc]]),.cp [T.n kb,T.n ob,T.n tb,T.n vb,.s nb,.sl 6 lb] 0,.t (.ag [T.n kb,T.n ob,T.n tb,T.n vb,.s nb,.sl 6 lb]),.s gb,.s ([105,102,32]++ga++[32,116,104,101,110,32]++gb),.s ([105,102,32]++ga++[32,116,104,101,110,32]++gb++[32,101,108,115,101,32]),wr es,.cp [T.i 4,T.n o,T.n t,T.n v,.s nm,.sl 6 [.ag [T.n ka,T.n oa,T.n ta,T.n va,.s na,.sl 6 la],.ag [T.n kb,T.n ob,T.n tb,T.n vb,.s nb,.sl 6 lb],.ag [T.n kc,T.n oc,T.n tc,T.n vc,.s nc,.sl 6 lc]]] 5,.t (.sl 6 [.ag [T.n ka,T.n oa,T.n ta,T.n va,.s na,.sl 6 la],.ag [T.n kb,T.n ob,T.n tb,T.n vb,.s nb,.sl 6 lb],.ag [T.n kc,T.n oc,T.n tc,T.n vc,.s nc,.sl 6 lc]]),.cp [T.n kc,T.n oc,T.n tc,T.n vc,.s nc,.sl 6 lc] 0,.t (.ag [T.n kc,T.n oc,T.n tc,T.n vc,.s nc,.sl 6 lc]),.s gc,.s ([105,102,32]++ga++[32,116,104,101,110,32]++gb++[32,101,108,115,101,32]++gc),.s ([105,102,32]++ga++[32,116,104,101,110,32]++gb++[32,101,108,115,101,32]++gc)] ?_ ?_
  ·repeat' (first|refine wkt ?_|refine wd sa ?_|refine wd sb ?_|refine wd sc ?_|refine zqf ?_|refine zqd ?_|exact trivial|exact⟨⟨rfl,rfl⟩,trivial⟩|refine qav (fun env=>?_) ?_|refine wk ?_|exact wkc|refine wk2 ?_ ?_|intro hc)
   done
  ·exact zweg
 ·have hn:=h5 (.inl rfl);obtain⟨a,rfl⟩:=qbP.1 hn;refine hsh ([112,114,101,32]++grS f a) rfl ?_;clear hop hme hca hva h4 h5 h6 hsh;have sa:=hg a (qah ..);have qa:=hgl a (qah ..);clear hf hl hg hgl;unfold ShC at*;dsimp only[List.map];rw[zan a];generalize grS f a=ga at*;obtain⟨ka,oa,ta,va,na,la'⟩:=a;rw[zbx ka]at*;generalize la'.map exT=la at*;refine so Tryz.func43 ?_;refine wkt ?_;refine zqj ?_;repeat' (first|refine wkt ?_|exact wkc|refine wk2 ?_ ?_|intro hc)
  refine rgS [wr es,.cp [T.i 5,T.n o,T.n t,T.n v,.s nm,.sl 6 [.ag [T.n ka,T.n oa,T.n ta,T.n va,.s na,.sl 6 la]]] 5,.t (.sl 6 [.ag [T.n ka,T.n oa,T.n ta,T.n va,.s na,.sl 6 la]]),.cp [T.n ka,T.n oa,T.n ta,T.n va,.s na,.sl 6 la] 0,.t (.ag [T.n ka,T.n oa,T.n ta,T.n va,.s na,.sl 6 la]),.s ga,.s ([112,114,101,32]++ga),.s ([112,114,101,32]++ga)] ?_ ?_
  ·repeat' (first|refine wkt ?_|refine wd sa ?_|refine zqf ?_|refine zqd ?_|exact trivial|exact⟨⟨rfl,rfl⟩,trivial⟩|refine qav (fun env=>?_) ?_|refine wk ?_|exact wkc|refine wk2 ?_ ?_|intro hc)
   done
  ·exact zweg
 ·have hn:=h6 (.inl rfl);obtain⟨a,b,rfl⟩:=len2 hn;refine hsh (grS f a++[32,45,62,32]++grS f b) rfl ?_;clear hop hme hca hva h4 h5 h6 hsh;have sa:=hg a (qah ..);have qa:=hgl a (qah ..);have sb:=hg b (qai _ (qah ..));have qb:=hgl b (qai _ (qah ..));clear hf hl hg hgl;unfold ShC at*;dsimp only[List.map];rw[zan a,zan b];generalize grS f a=ga at*;obtain⟨ka,oa,ta,va,na,la'⟩:=a;rw[zbx ka]at*;generalize la'.map exT=la at*;generalize grS f b=gb at*;obtain⟨kb,ob,tb,vb,nb,lb'⟩:=b;rw[zbx kb]at*;generalize lb'.map exT=lb at*;refine so Tryz.func43 ?_;refine wkt ?_;refine zqj ?_;repeat' (first|refine wkt ?_|exact wkc|refine wk2 ?_ ?_|intro hc)
  refine rgS [wr es,.cp [T.i 6,T.n o,T.n t,T.n v,.s nm,.sl 6 [.ag [T.n ka,T.n oa,T.n ta,T.n va,.s na,.sl 6 la],.ag [T.n kb,T.n ob,T.n tb,T.n vb,.s nb,.sl 6 lb]]] 5,.t (.sl 6 [.ag [T.n ka,T.n oa,T.n ta,T.n va,.s na,.sl 6 la],.ag [T.n kb,T.n ob,T.n tb,T.n vb,.s nb,.sl 6 lb]]),.cp [T.n ka,T.n oa,T.n ta,T.n va,.s na,.sl 6 la] 0,.t (.ag [T.n ka,T.n oa,T.n ta,T.n va,.s na,.sl 6 la]),.s ga,.s (ga++[32,45,62,32]),wr es,.cp [T.i 6,T.n o,T.n t,T.n v,.s nm,.sl 6 [.ag [T.n ka,T.n oa,T.n ta,T.n va,.s na,.sl 6 la],.ag [T.n kb,T.n ob,T.n tb,T.n vb,.s nb,.sl 6 lb]]] 5,.t (.sl 6 [.ag [T.n ka,T.n oa,T.n ta,T.n va,.s na,.sl 6 la],.ag [T.n kb,T.n ob,T.n tb,T.n vb,.s nb,.sl 6 lb]]),.cp [T.n kb,T.n ob,T.n tb,T.n vb,.s nb,.sl 6 lb] 0,.t (.ag [T.n kb,T.n ob,T.n tb,T.n vb,.s nb,.sl 6 lb]),.s gb,.s (ga++[32,45,62,32]++gb),.s (ga++[32,45,62,32]++gb)] ?_ ?_
  ·repeat' (first|refine wkt ?_|refine wd sa ?_|refine wd sb ?_|refine zqf ?_|refine zqd ?_|exact trivial|exact⟨⟨rfl,rfl⟩,trivial⟩|refine qav (fun env=>?_) ?_|refine wk ?_|exact wkc|refine wk2 ?_ ?_|intro hc)
   done
  ·exact zweg
 ·have hn:=h6 (.inr rfl);obtain⟨a,b,rfl⟩:=len2 hn;refine hsh (grS f a++[32,102,98,121,32]++grS f b) rfl ?_;clear hop hme hca hva h4 h5 h6 hsh;have sa:=hg a (qah ..);have qa:=hgl a (qah ..);have sb:=hg b (qai _ (qah ..));have qb:=hgl b (qai _ (qah ..));clear hf hl hg hgl;unfold ShC at*;dsimp only[List.map];rw[zan a,zan b];generalize grS f a=ga at*;obtain⟨ka,oa,ta,va,na,la'⟩:=a;rw[zbx ka]at*;generalize la'.map exT=la at*;generalize grS f b=gb at*;obtain⟨kb,ob,tb,vb,nb,lb'⟩:=b;rw[zbx kb]at*;generalize lb'.map exT=lb at*;refine so Tryz.func43 ?_;refine wkt ?_;refine zqj ?_;repeat' (first|refine wkt ?_|exact wkc|refine wk2 ?_ ?_|intro hc)
  refine rgS [wr es,.cp [T.i 7,T.n o,T.n t,T.n v,.s nm,.sl 6 [.ag [T.n ka,T.n oa,T.n ta,T.n va,.s na,.sl 6 la],.ag [T.n kb,T.n ob,T.n tb,T.n vb,.s nb,.sl 6 lb]]] 5,.t (.sl 6 [.ag [T.n ka,T.n oa,T.n ta,T.n va,.s na,.sl 6 la],.ag [T.n kb,T.n ob,T.n tb,T.n vb,.s nb,.sl 6 lb]]),.cp [T.n ka,T.n oa,T.n ta,T.n va,.s na,.sl 6 la] 0,.t (.ag [T.n ka,T.n oa,T.n ta,T.n va,.s na,.sl 6 la]),.s ga,.s (ga++[32,102,98,121,32]),wr es,.cp [T.i 7,T.n o,T.n t,T.n v,.s nm,.sl 6 [.ag [T.n ka,T.n oa,T.n ta,T.n va,.s na,.sl 6 la],.ag [T.n kb,T.n ob,T.n tb,T.n vb,.s nb,.sl 6 lb]]] 5,.t (.sl 6 [.ag [T.n ka,T.n oa,T.n ta,T.n va,.s na,.sl 6 la],.ag [T.n kb,T.n ob,T.n tb,T.n vb,.s nb,.sl 6 lb]]),.cp [T.n kb,T.n ob,T.n tb,T.n vb,.s nb,.sl 6 lb] 0,.t (.ag [T.n kb,T.n ob,T.n tb,T.n vb,.s nb,.sl 6 lb]),.s gb,.s (ga++[32,102,98,121,32]++gb),.s (ga++[32,102,98,121,32]++gb)] ?_ ?_
  ·repeat' (first|refine wkt ?_|refine wd sa ?_|refine wd sb ?_|refine zqf ?_|refine zqd ?_|exact trivial|exact⟨⟨rfl,rfl⟩,trivial⟩|refine qav (fun env=>?_) ?_|refine wk ?_|exact wkc|refine wk2 ?_ ?_|intro hc)
   done
  ·exact zweg
 ·have hn:=h5 (.inr rfl);obtain⟨a,rfl⟩:=qbP.1 hn;refine hsh (grS f a++[32]++smpS es ⟨nm,t,v⟩) rfl ?_;clear hop hme hca hva h4 h5 h6 hsh;unfold onT at hsm;dsimp only at hsm;generalize smpS es ⟨nm,t,v⟩=z at*;have sa:=hg a (qah ..);have qa:=hgl a (qah ..);clear hf hl hg hgl;unfold ShC at*;dsimp only[List.map];rw[zan a];generalize grS f a=ga at*;obtain⟨ka,oa,ta,va,na,la'⟩:=a;rw[zbx ka]at*;generalize la'.map exT=la at*;refine so Tryz.func43 ?_;refine wkt ?_;refine zqj ?_;repeat' (first|refine wkt ?_|exact wkc|refine wk2 ?_ ?_|intro hc)
  refine rgS [wr es,.cp [T.i 8,T.n o,T.n t,T.n v,.s nm,.sl 6 [.ag [T.n ka,T.n oa,T.n ta,T.n va,.s na,.sl 6 la]]] 5,.t (.sl 6 [.ag [T.n ka,T.n oa,T.n ta,T.n va,.s na,.sl 6 la]]),.cp [T.n ka,T.n oa,T.n ta,T.n va,.s na,.sl 6 la] 0,.t (.ag [T.n ka,T.n oa,T.n ta,T.n va,.s na,.sl 6 la]),.s ga,.s (ga++[32]),wr es,.cp [T.i 8,T.n o,T.n t,T.n v,.s nm,.sl 6 [.ag [T.n ka,T.n oa,T.n ta,T.n va,.s na,.sl 6 la]]] 4,.s nm,.cp [T.i 8,T.n o,T.n t,T.n v,.s nm,.sl 6 [.ag [T.n ka,T.n oa,T.n ta,T.n va,.s na,.sl 6 la]]] 2,.n t,.cp [T.i 8,T.n o,T.n t,T.n v,.s nm,.sl 6 [.ag [T.n ka,T.n oa,T.n ta,T.n va,.s na,.sl 6 la]]] 3,.n v,.t (.ag [.s nm,T.n t,T.n v]),.s z,.s (ga++[32]++z),.s (ga++[32]++z)] ?_ ?_
  ·repeat' (first|refine wkt ?_|refine wd sa ?_|refine wd hsm ?_|refine zqf ?_|refine zqd ?_|exact trivial|exact⟨⟨rfl,rfl⟩,trivial⟩|refine qav (fun env=>?_) ?_|refine wk ?_|exact wkc|refine wk2 ?_ ?_|intro hc)
   done
  ·exact zweg
 ·refine hsh (zbl es f t.1 args ([109,101,114,103,101,32]++nm) args.length) rfl ?_;have hs:=hme rfl;unfold ShC at hs;rw[zbx]at hs;generalize zbl es f t.1 args ([109,101,114,103,101,32]++nm) args.length=z at*;exact zwv
 ·refine hsh (zfs f v.1 nm args) rfl ?_;have hs:=hca rfl;unfold ShC at hs;rw[zbx]at hs;generalize zfs f v.1 nm args=z at*;exact zwv
 ·refine hsh ([39]++nm++[39]) rfl ?_;generalize args.map exT=la at*;clear hop hme hca hf hg hsm hva;refine so Tryz.func43 ?_;refine wkt ?_;refine zqj ?_;repeat' (first|refine wkt ?_|refine zqd ?_|exact wkc|refine wk2 ?_ ?_|refine wk ?_|intro hc)
  exact zwfg
theorem zct{es:List En}(h:ShE es):∀(m:Nat) (e:Ex),ShOk e->wEx e≤m->m≤80000->ShC 43 es e (shF es m e)
 | 0,e,_,hm,_=>by have:=zcG e;omega
 | m+1,e,he,hm,hb=>by
   rw[shF];refine zus h he.self (fun x hx=>zct h m x (he.arg hx) (by have:=zcS hx;omega) oA) fun x hx=>?_
   have h1:=ziD h m x (he.arg hx);have h2:wEx x≤80000:=by have:=zcS hx;omega
   have h3:wEx x*12000100≤80000*12000100:=qaH _ h2;omega
theorem zz2(h:oneX e=0)(hnm:e.name.length≤3000000):ShA e:=by
 have hfew:e.args.length≤64:=by
  unfold oneX oneI at h;split at h
  ·cases h
  ·omega
 unfold oneX at h;rw[zsK _ _ _ _ _ _ oA]at h
 have hf:zi6 e.kind.1 e.op.1 e.t.1 e.v.1 e.name e.args.length=true:=by
  exact zwbv
 clear h;unfold zi6 at hf;split at hf
 ·cases hf
 rename_i h1
 have ha:zlj e.kind.1 e.op.1 e.t.1 e.v.1 e.args.length=true:=by
  exact zwcl
 split at hf
 ·cases hf
 rename_i h2;split at hf
 ·cases hf
 unfold zlj at ha;refine⟨hfew,hnm,oA,fun hk ht=>?_,fun hk=>?_,fun hk=>?_,fun hk=>?_,fun hk=>?_,fun hk=>?_,fun hk ht=>?_,fun hk=>?_⟩
 ·rw[hk,ht]at hf;simp at hf;omega
 ·rw[hk]at ha h2;simp at ha h2;unfold opdI;split at ha
  ·rename_i h3;rw[oG h3];omega
  ·rename_i h3;rw[oH h3];omega
 ·rw[hk]at ha;simp at ha;omega
 ·exact zwfl
 ·exact zwfl
 ·rcases hk with hk|hk
  ·rw[hk]at hf;simp[tagI]at hf;omega
  ·rw[hk]at hf;simp at hf;omega
 ·rw[hk,ht]at ha;simp at ha;omega
 ·rw[hk]at hf ha;simp at hf ha;omega
theorem ztd(h:zbi es e=0)(hn:∀x∈flat e,x.name.length≤3000000):ShOk e/\wEx e≤400:=by
 unfold zbi at h;split at h
 ·rename_i hc;unfold zeC at hc;split at hc
  ·cases hc
  ·rename_i hd;exact⟨fun x hx=>zz2 (zab hc x hx) (hn x hx),oA⟩
 ·rename_i hc;exact oI h hc
theorem zse(b:Blk):Hands [b,symB] [1] [symB]:=by
 refine⟨oB,oC,rfl,fun j i c hj hc=>?_,fun j c hc=>?_⟩
 ·cases j with
  | zero=>simp at hj hc;subst hj hc;rfl
  | succ j=>simp at hj
 ·cases j with
  | zero=>simp at hc;subst hc;rfl
  | succ j=>simp at hc
section rules
variable {n:Nat}{env:Env}{H:Heap}{K:TK}{all:Array Oper}{rest:List Oper}{d:Nat}{ty:TypeId}{pos:String}{aft:Array Edge}
theorem TO.newW{f:Operand}{args:Array Operand}{ts:Array TypeId}(hd:Nat.ble (d+1) n=true)(hf:env.val f=some (.fn 30 []))(ha:env.vals args.toList=some [.t (ensT es)])
  (k:TO false Tryz.prog n all rest ((d,.ag [.t (ensT es),.mp (H.length+1)])::env) (H++[.cells [.t (ensT es),.mp (H.length+1)],symB]) K):
  TO false Tryz.prog n all (⟨some d,.call { callee:=.value f,args:=args,argTypes:=ts },ty,pos,aft,none⟩::rest) env H K:=
 TO.zcm [] (zin es) hd hf ha (Les.refl _) rfl (ze7 H) (by simp[SV.ren,names,rens]) (by
  simp[patch,Blk.ren,names,rens,SV.ren]) k
theorem TO.wrC{b:Blk}{fid:FuncId}{x:T}{s:Str}{f:Operand}{args:Array Operand}{ts:Array TypeId}(hs:Sound Tryz.prog fid [wr es,.t x] [symB] (fun r H'=>r= .ret (.s s)/\H'=[symB]))(hd:Nat.ble (d+1) n=true)(hf:env.val f=some (.fn fid []))(ha:env.vals args.toList=some [.ag [.t (ensT es),.mp 1],.t x])
  (k:TO false Tryz.prog n all rest ((d,.s s)::env) [b,symB] K):
  TO false Tryz.prog n all (⟨some d,.call { callee:=.value f,args:=args,argTypes:=ts },ty,pos,aft,none⟩::rest) env [b,symB] K:=
 TO.zcm [1] hs hd hf ha (Les.refl _) rfl (zse b) rfl rfl k
end rules
def ztg(es:List En)(e:Ex):Str×Int:=if zbi es e=0 then(shF es 400 e,0) else([],zbi es e)
theorem zn4  (h:ShE es) (e:Ex) (hw:wEx e≤1000000000) (hn:∀x∈flat e,x.name.length≤3000000):Pure Tryz.prog 16 [.t (ensT es),.t (.ag (exC e))] (.tup [.s (ztg es e).1,.i (ztg es e).2]):=by
 have hx:=zc6 es e hw;rw[zan]at hx;have he:exC e=[T.n e.kind,T.n e.op,T.n e.t,T.n e.v,.s e.name,.sl 6 (e.args.map exT)]:=rfl;unfold ztg;by_cases hz:zbi es e=0
 ·rw[oG hz];obtain⟨g1,g2⟩:=ztd hz hn;have hs:=zct h 400 e g1 g2 oB;unfold ShC at hs;rw[hz]at hx;generalize shF es 400 e=z at*;rw[he]at*;refine so Tryz.func16 ?_;repeat' (first|refine wkt ?_|refine wv hx ?_|exact wkc|refine wk2 ?_ ?_|intro hc)
  refine TR.zkM (envF:=?envF) (HF:=[.cells [.t (ensT es),.mp 1],symB]) [(.t (ensT es),false),(.ag [.t (ensT es),.mp 1],true),(.t (.ag [T.n e.kind,T.n e.op,T.n e.t,T.n e.v,.s e.name,.sl 6 (e.args.map exT)]),false),(.s z,true),(.s z,false),(.i 0,false)] [[],[.cells [.t (ensT es),.mp 1],symB],[.cells [.t (ensT es),.mp 1],symB]] hmix ?hB rfl ?hp rfl ?hE ?hK
  case hB=>(dsimp only[List.map];decide +kernel)
  case hE=>exact rfl
  case hp=>
   repeat' (first|(apply TO.newW;(iterate 3 exact rfl))|(apply TO.wrC hs;(iterate 3 exact rfl))|refine wkt ?_|exact trivial|exact⟨rfl,rfl⟩|refine qav (fun H env=>?_) ?_|refine qav (fun env=>?_) ?_|refine wk ?_|fail)
  case hK=>
   refine ya ?_;exact wkr
 ·rw[oH hz];generalize zbi es e=c at*;rw[he]at*;refine so Tryz.func16 ?_;refine yb hx ?_;exact wkr
def zmz(es:List En)(ck:List OnC):Str×Int:=if(ck.all fun o=>hasT es o.t.1 o.tag.1)=true then(zfO es ck,0) else([],5)
theorem zxh{ck:List OnC}{j:Nat}(hlt:j<ck.length)(hh:¬hasT es ck[j].t.1 ck[j].tag.1=true):zmz es ck=([],5):=by
 unfold zmz;rw[oH];intro hall;exact hh (qaB.1 hall _ (qak hlt))
theorem zn3  (h:ShE es) (ck:List OnC) (hn:∀o∈ck,o.name.length≤3000000) (hl:ck.length≤1000000):Pure Tryz.prog 17 [.t (ensT es),.t (.sl 3 (ck.map onT))] (.tup [.s (zmz es ck).1,.i (zmz es ck).2]):=by
 have hml:(ck.map onT).length=ck.length:=qac _;have hs:=zg1 h ck hn hl;refine so Tryz.func17 ?_;repeat' (first|refine wu ?_|exact wkc|refine wk2 ?_ ?_|intro hc)
 refine TR.zaz ck.length (fun j=>((ck.take j).all fun o=>hasT es o.t.1 o.tag.1)=true) (fun j=>[(0,.t (ensT es)),(1,.t (.sl 3 (ck.map onT))),(8,.t (.sl 3 (ck.map onT))),(9,.i ck.length),(10,.i j)]) (fun j=>[]) rfl (fun j hlt ha=>?_) (fun ha=>?_) ⟨rfl,rfl,rfl,by rw[<-hml];rfl,rfl,trivial⟩ rfl
 ·have hx:=zbc onT hlt;have htk:=zbg hlt;have hh:=zfY es ck[j].t ck[j].tag;have hbad:=fun hq=>zxh (es:=es) hlt hq
  have hgood:hasT es ck[j].t.1 ck[j].tag.1=true->((ck.take (j+1)).all fun o=>hasT es o.t.1 o.tag.1)=true:=fun hq=>by
   rw[htk,qbY,ha];simpa using hq
  generalize hb:hasT es ck[j].t.1 ck[j].tag.1=b at*;generalize zmz es ck=sc at*;generalize ck[j]=o at*;obtain⟨nm,t,v⟩:=o;dsimp only[onT]at hx hh;cases b with
  | true=>
    refine yb hh ?_;exact zac.zaH hlt (hgood rfl) ⟨rfl,rfl,rfl,rfl,rfl,trivial⟩ rfl
  | false=>
    rw[hbad oB];refine yb hh ?_;exact wkr
 ·rw[qap]at ha;unfold zmz;rw[oG ha];generalize zfO es ck=z at*;repeat' (first|refine wkt ?_|(apply TO.newW;(iterate 3 exact rfl))|(apply TO.wrC hs;(iterate 3 exact rfl))|refine zac.exit ?_|exact wkc|refine wk2 ?_ ?_|refine wk ?_|intro hc)
  exact wkr
end Go.Proofs.YtdicfgideclbdaaGreatDoor
