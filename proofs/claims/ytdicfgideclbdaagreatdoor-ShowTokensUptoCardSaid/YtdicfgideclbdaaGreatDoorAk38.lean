import Derived.Test.YtdicfgideclbdaaGreatDoorAk36
import Derived.Test.YtdicfgideclbdaaGreatDoorAk37
set_option maxHeartbeats 64000000
set_option linter.all false
namespace Go.Proofs.YtdicfgideclbdaaGreatDoor
open Go Go.TL
attribute [local irreducible] TR TO Then zaj RetK Sound zac Kf GG zaQ
variable {es:List En}{d:Decl}{α:Type}
abbrev lnT:TypeId:=94
abbrev ln0 (es:List En)(l:Str):Heap:=[symB,.cells [.t (ensT es),.mp 0,.t (.v (.pointer none)),.rw 2 l.length],.row 5 (za6 l)]
abbrev ln1 (es:List En)(l:Str):Heap:=[symB,.cells [.t (ensT es),.mp 0,.tref lnT 4 1 2,.rw 2 l.length],.row 5 (za6 l)]
theorem zi8 (es:List En) (l:Str):Sound Tryz.prog 59 [.tref lnT 4 1 2] (ln0 es l) (fun r H'=>r= .ret (.tup [])/\H'=ln1 es l):=by
 refine so Tryz.func59 ?_;repeat' (first|refine wg2 ?_ ?_|refine wg ?_|exact wgc|(apply TO.zpQ zaf;(iterate 4 exact rfl);decide;kernel_rfl;exact rfl;exact rfl)|(apply TO.zjB zaf;(iterate 4 exact rfl);kernel_rfl;exact rfl;kernel_rfl)|(apply TO.zh7;exact rfl;exact Tryz.func111;kernel_rfl;kernel_rfl;kernel_rfl;kernel_rfl;exact rfl)|intro hc)
 all_goals exact zwek
theorem zi9 (es:List En) (l:Str):Sound Tryz.prog 59 [.tref lnT 4 1 2] (ln1 es l) (fun r H'=>r= .ret (.tup [])/\H'=ln1 es l):=by
 refine so Tryz.func59 ?_;repeat' (first|refine wg2 ?_ ?_|refine wg ?_|exact wgc|(apply TO.zim zaf;(iterate 6 exact rfl);exact Le.tref _ _ _ _;exact Le.tref _ _ _ _)|intro hc)
 all_goals exact zwek
def lnH(a:Bool)(es:List En)(l:Str):Heap:=bif a then ln1 es l else ln0 es l
theorem zkE(a:Bool)(es:List En)(l:Str):Sound Tryz.prog 59 [.tref lnT 4 1 2] (lnH a es l) (fun r H'=>r= .ret (.tup [])/\H'=ln1 es l):=by
 cases a
 ·exact zi8 es l
 ·exact zi9 es l
theorem zkF (a:Bool) (es:List En) (l s:Str) (hl:l.length+s.length≤1000000000):Sound Tryz.prog 22 [.tref lnT 4 1 2,.s s] (lnH a es l) (fun r H'=>r= .ret (.tup [.i s.length,.t (.v .nilIface)])/\H'=ln1 es (l++s)):=by
 have hC:=zkE a es l;cases a
 all_goals
  refine so Tryz.func22 ?_;repeat' (first|refine wg2 ?_ ?_|refine wg ?_|exact wgc|(apply TO.zbI 3 (v:=.tup []) (Hc1:=ln1 es l) hC;(iterate 3 exact rfl);exact⟨Le.refl _,trivial⟩;(iterate 8 exact rfl))|(apply TO.zjk zaf;(iterate 12 exact rfl);omega;exact rfl)|intro hc)
  exact RetK.keep 3 rfl (Le.refl _) rfl rfl rfl rfl rfl ⟨rfl,rfl⟩
def za2(level:Nat)(s:Str):Str:=Go.Lib.repeatL [32,32] level++s++[10]
theorem zcs (a:Bool) (es:List En) (l s:Str) (level:Nat) (hv:level≤100) (hl:l.length+(za2 level s).length≤1000000000):Sound Tryz.prog 31 [.tref lnT 4 1 0,.i level,.s s] (lnH a es l) (fun r H'=>r= .ret (.tup [])/\H'=ln1 es (l++za2 level s)):=by
 have hr:=zkO [32,32] level oA (by show 2*level≤_;omega);have hw:=zkF a es l (za2 level s) hl;unfold za2 at*;generalize Go.Lib.repeatL [32,32] level=rp at*;simp only[qab,qae,qal]at hl;cases a
 all_goals
  unfold lnH at*;simp only[cond_true,cond_false]at*;refine so Tryz.func31 ?_;repeat' (first|refine wkt ?_|fail)
  refine TR.zkM (envF:=?envF) (HF:=ln1 es (l++(rp++s++[10]))) [(.tref lnT 4 1 0,false),(.tref lnT 4 1 0,false),(.tref lnT 4 1 2,false),(.i level,false),(.s rp,false),(.s s,false),(.s (rp++s),false),(.s (rp++s++[10]),false),(.tup [.i (rp++s++[10]).length,.t (.v .nilIface)],true)] [_,ln1 es (l++(rp++s++[10]))] hmix ?hB rfl ?hp rfl ?hE ?hK
  case hB=>(dsimp only[List.map];decide +kernel)
  case hE=>exact rfl
  case hp=>
   repeat' (first|(apply TO.zh8 zaf;(iterate 5 exact rfl);decide;exact rfl)|refine wkt ?_|refine wv hr ?_|(apply TO.zbI 3 hw;(iterate 3 exact rfl);exact Les.refl _;(iterate 8 exact rfl))|refine zqc ?_|exact trivial|exact⟨rfl,rfl⟩|refine qav (fun H env=>?_) ?_|refine qav (fun env=>?_) ?_|refine wk ?_|fail)
  case hK=>
   refine ya ?_;exact RetK.zih 3 rfl (Le.refl _) rfl rfl rfl rfl rfl ⟨rfl,rfl⟩
def zcc(es:List En)(d:Decl):Str:=if 0<d.clock.length then d.name++[58,32]++(zdn es d.ty.1).1++([32]++zfO es d.clock) else d.name++[58,32]++(zdn es d.ty.1).1
def zcd(es:List En)(l:List Decl):Str:=Go.Lib.join (l.map (zcc es)) [59,32]
structure ShD (d:Decl):Prop where
 name:d.name.length≤3000000
 few:d.clock.length≤1000
 ck:∀o∈d.clock,o.name.length≤3000000
theorem zjr(h:ShE es)(hd:ShD d):(zfO es d.clock).length≤6000100000:=by
 refine qax (zcL [32] 6000040 _ fun x hx=>?_) ?_
 ·obtain⟨o,ho,rfl⟩:=qaL.1 hx;exact zkX h o (hd.ck o ho)
 ·rw[qac];exact qax (qaH _ hd.few) oB
theorem zrK(h:ShE es)(hT:∀t:Int,(zdn es t).1.length≤3000000)(hd:ShD d):(zcc es d).length≤6100000000:=by
 have h1:=zjr h hd;have h2:=hT d.ty.1;have h3:=hd.name;exact zwbj
theorem zeG  (h:ShE es) (hT:∀t:Int,(zdn es t).1.length≤3000000) (l:List Decl) (hd:∀d∈l,ShD d) (hl:l.length≤1000):Sound Tryz.prog 74 [wr es,.t (.sl 3 (l.map zak))] [symB] (fun r H'=>r= .ret (.s (zcd es l))/\H'=[symB]):=by
 have hml:(l.map zak).length=l.length:=qac _
 have hj:=zcx (l.map (zcc es)) [59,32] (by rw[qac];omega) (by
  refine qax (zcL [59,32] 6100000000 _ fun x hx=>?_) ?_
  ·exact zwew
  ·rw[qac];exact qax (qaH _ hl) oB)
 unfold zcd;have hjm:(l.map (zcc es)).map T.s=l.map fun d=>T.s (zcc es d):=by rw[qa0];rfl
 rw[hjm]at hj;generalize Go.Lib.join (l.map (zcc es)) [59,32]=z at*;refine so Tryz.func74 ?_;refine wkt ?_;refine zqj ?_;repeat' (first|refine wkt ?_|fail)
 refine TR.tail 1 5 rfl ?_;refine TR.zaz l.length (fun _=>True) (fun j=>[(2,.ref 1 0),(5,.sl 1 ((l.take j).map fun d=>T.s (zcc es d)) 2),(11,.t (.sl 3 (l.map zak))),(12,.i l.length),(13,.i j)]) (fun j=>[symB,.cells [.t (ensT es),.mp 0],.tail ((l.take j).map fun d=>T.s (zcc es d)).length]) trivial (fun j hlt _=>?_) (fun _=>?_) ⟨rfl,rfl,rfl,by rw[<-hml];rfl,rfl,trivial⟩ rfl
 ·have hx:=zbc zak hlt;have htk:=zbg hlt;have hdd:=hd _ (qak hlt);have hnt:=zik es l[j].ty;have hln:=hT l[j].ty.1;have hck:=zg1 h l[j].clock hdd.ck (qax hdd.few oB);have hcl:=zjr h hdd;have hnm:=hdd.name;have hlen:((l.take j).map fun d=>T.s (zcc es d)).length≤1000000:=by rw[qac,qba];omega
  have hL1:(l.take (j+1)).map (fun d=>T.s (zcc es d))=(l.take j).map (fun d=>T.s (zcc es d))++[T.s (zcc es l[j])]:=by rw[htk,qaw];rfl
  have hmc:(l[j].clock.map onT).length=l[j].clock.length:=qac _;generalize hds:zcc es l[j]=ds at*;unfold zcc at hds;generalize zfO es l[j].clock=cks at*;generalize zdn es l[j].ty.1=nt at*;generalize hL:(l.take j).map (fun d=>T.s (zcc es d))=L at*;clear hdd;generalize l[j]=d at*;obtain⟨nm,ty,ck⟩:=d;dsimp only[zak]at hx hds hck hnt hnm hmc;by_cases hc0:0<ck.length
  ·rw[oG hc0]at hds;subst hds;repeat' (first|refine wkt ?_|refine wv hnt ?_|refine wd hck ?_|refine zqc ?_|exact wkc|intro hc|refine wk2 ?_ ?_|refine wk ?_|fail)
   all_goals exact zwba
  ·rw[oH hc0]at hds;subst hds;repeat' (first|refine wkt ?_|refine wv hnt ?_|refine zqc ?_|exact wkc|intro hc|refine wk2 ?_ ?_|refine wk ?_|fail)
   all_goals exact zwba
 ·exact zwcz
def zb4(es:List En)(level:Nat)(l:List Decl):Str:=if 0<l.length then za2 level ([118,97,114,32]++zcd es l++[59]) else[]
theorem zgt(h:ShE es)(hT:∀t:Int,(zdn es t).1.length≤3000000)(l:List Decl)(hd:∀d∈l,ShD d)(hl:l.length≤1000):(zcd es l).length≤6200000000000:=by
 refine qax (zcL [59,32] 6100000000 _ fun x hx=>?_) ?_
 ·exact zwew
 ·rw[qac];exact qax (qaH _ hl) oB
theorem zf5  (h:ShE es) (hT:∀t:Int,(zdn es t).1.length≤3000000) (t:Str) (level:Nat) (hv:level≤100) (l:List Decl) (hd:∀d∈l,ShD d) (hl:l.length≤1000) (hb:t.length+(zb4 es level l).length≤1000000000):
  Sound Tryz.prog 75 [.tref lnT 4 1 0,.i level,.t (.sl 3 (l.map zak))] (ln1 es t) (fun r H'=>r= .ret (.tup [])/\H'=ln1 es (t++zb4 es level l)):=by
 have hml:(l.map zak).length=l.length:=qac _;have hdl:=zgt h hT l hd hl;have hs:=zeG h hT l hd hl;unfold zb4 at*;by_cases h0:0<l.length
 ·rw[oG h0]at hb⊢;have ha:=zcs true es t ([118,97,114,32]++zcd es l++[59]) level hv hb;unfold lnH at ha;simp only[cond_true]at ha;generalize za2 level ([118,97,114,32]++zcd es l++[59])=ln at*;generalize zcd es l=z at*;refine so Tryz.func75 ?_;repeat' (first|refine wkt ?_|refine wd hs ?_|(apply TO.zbI 3 ha;(iterate 3 exact rfl);exact Les.refl _;(iterate 8 exact rfl))|refine zqc ?_|exact wkc|intro hc|refine wk2 ?_ ?_|refine wk ?_|fail)
  all_goals exact zwcv
 ·rw[oH h0,qaz];refine so Tryz.func75 ?_;repeat' (first|refine wkt ?_|exact wkc|refine wk2 ?_ ?_|refine wk ?_|intro hc)
  all_goals exact zwcv
theorem znK{a b x:α}(h:x∈[a,b]):x=a\/x=b:=by simpa using h
def lhsS(l:List Str):Str:=if 1<l.length then[40]++Go.Lib.join l [44,32]++[41] else Go.Lib.join l [44,32]
def zcn(es:List En)(level:Nat)(q:Equ):Str:=za2 level (lhsS q.left++[32,61,32]++shF es 400 q.right++[59])
structure ShQ (q:Equ):Prop where
 ok:ShOk q.right
 size:wEx q.right≤400
 few:q.left.length≤1000
 left:∀n∈q.left,n.length≤3000000
def zai{α:Type}(g:α->Str)(l:List α):Str:=(l.map g).flatten
theorem zaP(g:α->Str)(l:List α)(x:α):zai g (l++[x])=zai g l++g x:=by simp[zai]
theorem zce(g:α->Str)(l:List α)(j:Nat):(zai g (l.take j)).length≤(zai g l).length:=by
 conv=>rhs;rw[<-qaX j l]
 simp only[zai,qaw,qbM,qab];omega
theorem zhU  (h:ShE es) (ga:Auto->Str) (t:Str) (level:Nat) (hv:level≤100) (eqs:List Equ) (autos:List Auto) (hq:∀q∈eqs,ShQ q) (hle:eqs.length≤1000000) (hla:autos.length≤1000000)
  (ha:∀a∈autos,∀t:Str,t.length+(ga a).length≤1000000000->Sound Tryz.prog 127 [.tref lnT 4 1 0,.i level,.t (zam a)] (ln1 es t) (fun r H'=>r= .ret (.tup [])/\H'=ln1 es (t++ga a)))
  (hb:t.length+(zai (zcn es level) eqs).length+(zai ga autos).length≤1000000000):
  Sound Tryz.prog 76 [.tref lnT 4 1 0,.i level,.t (.sl 7 (eqs.map equT)),.t (.sl 1 (autos.map zam))] (ln1 es t) (fun r H'=>r= .ret (.tup [])/\H'=ln1 es (t++zai (zcn es level) eqs++zai ga autos)):=by
 have hml:(eqs.map equT).length=eqs.length:=qac _;have hma:(autos.map zam).length=autos.length:=qac _;refine so Tryz.func76 ?_;repeat' (first|refine wkt ?_|fail)
 refine TR.zaz eqs.length (fun _=>True) (fun j=>[(0,.tref lnT 4 1 0),(1,.i level),(3,.t (.sl 1 (autos.map zam))),(13,.t (.sl 7 (eqs.map equT))),(14,.i eqs.length),(15,.i j)]) (fun j=>ln1 es (t++zai (zcn es level) (eqs.take j))) trivial (fun j hlt _=>?_) (fun _=>?_) ⟨rfl,rfl,rfl,rfl,by rw[<-hml];rfl,rfl,trivial⟩ (by simp[zai])
 ·have hx:(eqs.map equT)[j]?=some (.ag [T.sl 1 (eqs[j].left.map T.s),T.n eqs[j].right.kind,T.n eqs[j].right.op,T.n eqs[j].right.t,T.n eqs[j].right.v,T.s eqs[j].right.name,T.sl 6 (eqs[j].right.args.map exT)]):=zbc equT hlt;have htk:=zbg hlt;have hqq:=hq _ (qak hlt);have hs:=zct h 400 _ hqq.ok hqq.size oB;have hfl:=zce (zcn es level) eqs (j+1);rw[htk,zaP]at hfl;have hj1:t++zai (zcn es level) (eqs.take (j+1))=t++zai (zcn es level) (eqs.take j)++zcn es level eqs[j]:=by rw[htk,zaP,qay]
  have hadd:=zcs true es (t++zai (zcn es level) (eqs.take j)) (lhsS eqs[j].left++[32,61,32]++shF es 400 eqs[j].right++[59]) level hv (by
   rw[qab]at hfl⊢;simp only[zcn]at hfl hb;omega)
  have hjl:(Go.Lib.join eqs[j].left [44,32]).length≤3000002000:=by
   refine qax (zcL [44,32] 3000000 _ hqq.left) ?_;exact qax (qaH _ hqq.few) oB
  have hjn:=zcx eqs[j].left [44,32] (qax hqq.few oB) (qax hjl oB)
  have hgl:(shF es 400 eqs[j].right).length≤5000000000:=by
   have h1:=ziD h 400 _ hqq.ok;have h2:wEx eqs[j].right*12000100≤400*12000100:=qaH _ hqq.size;omega
  have hlh:lhsS eqs[j].left=if 1<eqs[j].left.length then[40]++Go.Lib.join eqs[j].left [44,32]++[41] else Go.Lib.join eqs[j].left [44,32]:=rfl
  have hee:zcn es level eqs[j]=za2 level (lhsS eqs[j].left++[32,61,32]++shF es 400 eqs[j].right++[59]):=rfl;rw[<-hee]at hadd;have hms:(eqs[j].left.map T.s).length=eqs[j].left.length:=qac _;clear hqq hfl;unfold lnH at hadd;simp only[cond_true]at hadd;unfold ShC at hs;unfold exC at hs;generalize zcn es level eqs[j]=ln at*;generalize shF es 400 eqs[j].right=g at*;generalize t++zai (zcn es level) (eqs.take j)=acc at*;generalize Go.Lib.join eqs[j].left [44,32]=jn at*;generalize lhsS eqs[j].left=lh at*;generalize eqs[j]=q at*;clear hee;by_cases h1:1<q.left.length
  ·rw[oG h1]at hlh;subst hlh;repeat' (first|refine wkt ?_|refine zqg ?_|refine wv hjn ?_|refine zqc ?_|exact wkc|intro hc|refine wk2 ?_ ?_|fail)
   refine TR.zfC (envF:=?envF) (HF:=ln1 es (acc++ln)) [(.tref lnT 4 1 0,false),(.i level,false),(.s ([40]++jn++[41]),false),(.s ([40]++jn++[41]++[32,61,32]),false),(.tref lnT 4 1 0,false),(.tref lnT 4 1 0,false),(.ref 1 0,false),(wr es,false),(.cp [.sl 1 (q.left.map T.s),T.n q.right.kind,T.n q.right.op,T.n q.right.t,T.n q.right.v,.s q.right.name,.sl 6 (q.right.args.map exT)] 1,false),(.t (.ag [T.n q.right.kind,T.n q.right.op,T.n q.right.t,T.n q.right.v,.s q.right.name,.sl 6 (q.right.args.map exT)]),false),(.s g,false),(.s ([40]++jn++[41]++[32,61,32]++g),false),(.s ([40]++jn++[41]++[32,61,32]++g++[59]),false),(.tup [],true)] [ln1 es acc,ln1 es (acc++ln)] hmix ?hB rfl ?hp rfl ?hE ?hK
   case hB=>(dsimp only[List.map];decide +kernel)
   case hE=>exact rfl
   case hp=>
    repeat' (first|(refine qav (fun H hH env=>?_) ?_;rcases znK hH with rfl|rfl)|refine qav (fun env=>?_) ?_|refine wkt ?_|refine wd hs ?_|(apply TO.zbI 3 hadd;(iterate 3 exact rfl);exact Les.refl _;(iterate 8 exact rfl))|refine zqc ?_|exact trivial|exact qav rfl rfl|refine wk ?_|fail)
    done
   case hK=>
    refine ya ?_;exact zac.zaH hlt trivial (by(try dsimp only);exact⟨rfl,rfl,rfl,rfl,rfl,rfl,trivial⟩) (by(try dsimp only);rw[hj1])
  ·rw[oH h1]at hlh;subst hlh;repeat' (first|refine wkt ?_|refine zqg ?_|refine wv hjn ?_|refine zqc ?_|exact wkc|intro hc|refine wk2 ?_ ?_|fail)
   refine TR.zfC (envF:=?envF2) (HF:=ln1 es (acc++ln)) [(.tref lnT 4 1 0,false),(.i level,false),(.s lh,false),(.s (lh++[32,61,32]),false),(.tref lnT 4 1 0,false),(.tref lnT 4 1 0,false),(.ref 1 0,false),(wr es,false),(.cp [.sl 1 (q.left.map T.s),T.n q.right.kind,T.n q.right.op,T.n q.right.t,T.n q.right.v,.s q.right.name,.sl 6 (q.right.args.map exT)] 1,false),(.t (.ag [T.n q.right.kind,T.n q.right.op,T.n q.right.t,T.n q.right.v,.s q.right.name,.sl 6 (q.right.args.map exT)]),false),(.s g,false),(.s (lh++[32,61,32]++g),false),(.s (lh++[32,61,32]++g++[59]),false),(.tup [],true)] [ln1 es acc,ln1 es (acc++ln)] hmix ?hB2 rfl ?hp2 rfl ?hE2 ?hK2
   case hB2=>(dsimp only[List.map];decide +kernel)
   case hE2=>exact rfl
   case hp2=>
    repeat' (first|(refine qav (fun H hH env=>?_) ?_;rcases znK hH with rfl|rfl)|refine qav (fun env=>?_) ?_|refine wkt ?_|refine wd hs ?_|(apply TO.zbI 3 hadd;(iterate 3 exact rfl);exact Les.refl _;(iterate 8 exact rfl))|refine zqc ?_|exact trivial|exact qav rfl rfl|refine wk ?_|fail)
    done
   case hK2=>
    refine ya ?_;exact zac.zaH hlt trivial (by(try dsimp only);exact⟨rfl,rfl,rfl,rfl,rfl,rfl,trivial⟩) (by(try dsimp only);rw[hj1])
 ·rw[qap];repeat' (first|refine wkt ?_|refine zac.exit ?_|exact wkc|refine wk2 ?_ ?_|intro hc)
  have hacc:(t++zai (zcn es level) eqs).length+(zai ga autos).length≤1000000000:=by rw[qab];exact hb
  generalize t++zai (zcn es level) eqs=acc at*;refine TR.zaz autos.length (fun _=>True) (fun j=>[(0,.tref lnT 4 1 0),(1,.i level),(44,.t (.sl 1 (autos.map zam))),(45,.i autos.length),(46,.i j)]) (fun j=>ln1 es (acc++zai ga (autos.take j))) trivial (fun j hlt _=>?_) (fun _=>?_) ⟨rfl,rfl,rfl,by rw[<-hma];rfl,rfl,trivial⟩ (by simp[zai])
  ·have hx:=zbc zam hlt;have htk:=zbg hlt;have hfl:=zce ga autos (j+1);rw[htk,zaP]at hfl;have hj1:acc++zai ga (autos.take (j+1))=acc++zai ga (autos.take j)++ga autos[j]:=by rw[htk,zaP,qay]
   have hs:=ha autos[j] (qak hlt) (acc++zai ga (autos.take j)) (by
    rw[qab]at hfl⊢;omega)
   generalize acc++zai ga (autos.take j)=ac2 at*;generalize ga autos[j]=ln at*;generalize autos[j]=a at*;obtain⟨sts⟩:=a;rw[zam]at hx hs;repeat' (first|refine wkt ?_|refine zqg ?_|(apply TO.zbI 3 hs;(iterate 3 exact rfl);exact Les.refl _;(iterate 8 exact rfl))|exact wkc|refine wk2 ?_ ?_|refine wk ?_|intro hc)
   exact zac.zaH hlt trivial (by(try dsimp only);exact⟨rfl,rfl,rfl,rfl,rfl,trivial⟩) (by(try dsimp only);rw[hj1])
  ·exact zwda
def kwS(b:Bool):Str:=if b=true then[32,99,111,110,116,105,110,117,101,32] else[32,116,104,101,110,32]
def zc2(es:List En)(level:Nat)(word:Str)(sts:List Sta)(q:Tran):Str:=za2 level (word++[32]++shF es 400 q.cond++kwS q.resume++((sts[q.to.1.toNat]?).map Sta.name).getD []++[59])
structure ShTr (n:Nat) (q:Tran):Prop where
 ok:ShOk q.cond
 size:wEx q.cond≤400
 tgt:0≤q.to.1/\q.to.1<n
theorem zhb  (h:ShE es) (t word:Str) (hwd:word.length≤100) (level:Nat) (hv:level≤100) (sts:List Sta) (hnm:∀s∈sts,s.name.length≤3000000) (l:List Tran) (hq:∀q∈l,ShTr sts.length q) (hl:l.length≤1000000)
  (hb:t.length+(zai (zc2 es level word sts) l).length≤1000000000):
  Sound Tryz.prog 157 [.tref lnT 4 1 0,.i level,.s word,.t (.ag [.sl 6 (sts.map staT)]),.t (.sl 8 (l.map zaA))] (ln1 es t) (fun r H'=>r= .ret (.tup [])/\H'=ln1 es (t++zai (zc2 es level word sts) l)):=by
 have hml:(l.map zaA).length=l.length:=qac _;refine so Tryz.func157 ?_;repeat' (first|refine wkt ?_|fail)
 refine TR.zaz l.length (fun _=>True) (fun j=>[(0,.tref lnT 4 1 0),(1,.i level),(2,.s word),(8,.cp [.sl 6 (sts.map staT)] 0),(13,.t (.sl 8 (l.map zaA))),(14,.i l.length),(15,.i j)]) (fun j=>ln1 es (t++zai (zc2 es level word sts) (l.take j))) trivial (fun j hlt _=>?_) (fun _=>?_) ⟨rfl,rfl,rfl,rfl,rfl,by rw[<-hml];rfl,rfl,trivial⟩ (by simp[zai])
 ·have hx:(l.map zaA)[j]?=some (zaA l[j]):=zbc zaA hlt;have htk:=zbg hlt;have hqq:=hq _ (qak hlt);have hs:=zct h 400 _ hqq.ok hqq.size oB;have hfl:=zce (zc2 es level word sts) l (j+1);rw[htk,zaP,qab]at hfl;have hj1:t++zai (zc2 es level word sts) (l.take (j+1))=t++zai (zc2 es level word sts) (l.take j)++zc2 es level word sts l[j]:=by rw[htk,zaP,qay]
  have hto:=hqq.tgt;have hlt2:l[j].to.1.toNat<sts.length:=oA
  have hst:=zbc staT hlt2;have hsn:=hnm _ (qak hlt2)
  have hee:zc2 es level word sts l[j]=za2 level (word++[32]++shF es 400 l[j].cond++kwS l[j].resume++sts[l[j].to.1.toNat].name++[59]):=by
   unfold zc2;rw[qad hlt2];rfl
  have hadd:=zcs true es (t++zai (zc2 es level word sts) (l.take j)) (word++[32]++shF es 400 l[j].cond++kwS l[j].resume++sts[l[j].to.1.toNat].name++[59]) level hv (by
   rw[<-hee,qab];omega)
  rw[<-hee]at hadd
  have hgl:(shF es 400 l[j].cond).length≤5000000000:=by
   have h1:=ziD h 400 _ hqq.ok;have h2:wEx l[j].cond*12000100≤400*12000100:=qaH _ hqq.size;omega
  clear hqq hfl hee;unfold lnH at hadd;simp only[cond_true]at hadd;unfold ShC at hs;unfold exC at hs;rw[zdf]at hst;generalize zc2 es level word sts l[j]=ln at*;generalize shF es 400 l[j].cond=g at*;generalize t++zai (zc2 es level word sts) (l.take j)=acc at*;generalize sts[l[j].to.1.toNat]=st at*;generalize l[j]=q at*;have hx:(l.map zaA)[j]?=some (.ag [T.n q.cond.kind,T.n q.cond.op,T.n q.cond.t,T.n q.cond.v,.s q.cond.name,.sl 6 (q.cond.args.map exT),T.n q.to,.b q.resume]):=hx;generalize q.resume=res at*;cases res with
  | true=>
    have hk:kwS true=[32,99,111,110,116,105,110,117,101,32]:=rfl;rw[hk]at hadd;repeat' (first|refine wkt ?_|refine zqg ?_|exact wkc|refine wk2 ?_ ?_|intro hc)
    refine TR.zfC (envF:=?envF1) (HF:=ln1 es (acc++ln)) [(.tref lnT 4 1 0,false),(.i level,false),(.s word,false),(.s (word++[32]),false),(.tref lnT 4 1 0,false),(.tref lnT 4 1 0,false),(.ref 1 0,false),(wr es,false),(.cp [T.n q.cond.kind,T.n q.cond.op,T.n q.cond.t,T.n q.cond.v,.s q.cond.name,.sl 6 (q.cond.args.map exT),T.n q.to,.b true] 0,false),(.t (.ag [T.n q.cond.kind,T.n q.cond.op,T.n q.cond.t,T.n q.cond.v,.s q.cond.name,.sl 6 (q.cond.args.map exT)]),false),(.s g,false),(.s (word++[32]++g),false),(.s [32,99,111,110,116,105,110,117,101,32],false),(.s (word++[32]++g++[32,99,111,110,116,105,110,117,101,32]),false),(.cp [.sl 6 (sts.map staT)] 0,false),(.t (.sl 6 (sts.map staT)),false),(.cp [T.n q.cond.kind,T.n q.cond.op,T.n q.cond.t,T.n q.cond.v,.s q.cond.name,.sl 6 (q.cond.args.map exT),T.n q.to,.b true] 6,false),(.n q.to,false),(.cp [.s st.name,.sl 3 (st.locals.map zak),.sl 7 (st.eqs.map equT),.sl 1 (st.autos.map zam),.sl 8 (st.unl.map zaA),.sl 8 (st.unt.map zaA)] 0,false),(.cp [.s st.name,.sl 3 (st.locals.map zak),.sl 7 (st.eqs.map equT),.sl 1 (st.autos.map zam),.sl 8 (st.unl.map zaA),.sl 8 (st.unt.map zaA)] 0,false),(.s st.name,false),(.s (word++[32]++g++[32,99,111,110,116,105,110,117,101,32]++st.name),false),(.s (word++[32]++g++[32,99,111,110,116,105,110,117,101,32]++st.name++[59]),false),(.tup [],true)] [ln1 es acc,ln1 es (acc++ln)] hmix ?hB1 rfl ?hp1 rfl ?hE1 ?hK1
    case hB1=>(dsimp only[List.map];decide +kernel)
    case hE1=>exact rfl
    case hp1=>
     repeat' (first|(refine qav (fun H hH env=>?_) ?_;rcases znK hH with rfl|rfl)|refine qav (fun env=>?_) ?_|refine wkt ?_|refine wd hs ?_|(apply TO.zbI 3 hadd;(iterate 3 exact rfl);exact Les.refl _;(iterate 8 exact rfl))|(apply TO.indexAddr zaf;(iterate 8 exact rfl);exact hto.1;exact hst)|refine zqc ?_|exact trivial|exact qav rfl rfl|refine wk ?_|fail)
     done
    case hK1=>
     refine ya ?_;exact zac.zaH hlt trivial (by(try dsimp only);exact⟨rfl,rfl,rfl,rfl,rfl,rfl,rfl,trivial⟩) (by(try dsimp only);rw[hj1])
  | false=>
    have hk:kwS false=[32,116,104,101,110,32]:=rfl;rw[hk]at hadd;repeat' (first|refine wkt ?_|refine zqg ?_|exact wkc|refine wk2 ?_ ?_|intro hc)
    refine TR.zfC (envF:=?envF2) (HF:=ln1 es (acc++ln)) [(.tref lnT 4 1 0,false),(.i level,false),(.s word,false),(.s (word++[32]),false),(.tref lnT 4 1 0,false),(.tref lnT 4 1 0,false),(.ref 1 0,false),(wr es,false),(.cp [T.n q.cond.kind,T.n q.cond.op,T.n q.cond.t,T.n q.cond.v,.s q.cond.name,.sl 6 (q.cond.args.map exT),T.n q.to,.b false] 0,false),(.t (.ag [T.n q.cond.kind,T.n q.cond.op,T.n q.cond.t,T.n q.cond.v,.s q.cond.name,.sl 6 (q.cond.args.map exT)]),false),(.s g,false),(.s (word++[32]++g),false),(.s [32,116,104,101,110,32],false),(.s (word++[32]++g++[32,116,104,101,110,32]),false),(.cp [.sl 6 (sts.map staT)] 0,false),(.t (.sl 6 (sts.map staT)),false),(.cp [T.n q.cond.kind,T.n q.cond.op,T.n q.cond.t,T.n q.cond.v,.s q.cond.name,.sl 6 (q.cond.args.map exT),T.n q.to,.b false] 6,false),(.n q.to,false),(.cp [.s st.name,.sl 3 (st.locals.map zak),.sl 7 (st.eqs.map equT),.sl 1 (st.autos.map zam),.sl 8 (st.unl.map zaA),.sl 8 (st.unt.map zaA)] 0,false),(.cp [.s st.name,.sl 3 (st.locals.map zak),.sl 7 (st.eqs.map equT),.sl 1 (st.autos.map zam),.sl 8 (st.unl.map zaA),.sl 8 (st.unt.map zaA)] 0,false),(.s st.name,false),(.s (word++[32]++g++[32,116,104,101,110,32]++st.name),false),(.s (word++[32]++g++[32,116,104,101,110,32]++st.name++[59]),false),(.tup [],true)] [ln1 es acc,ln1 es (acc++ln)] hmix ?hB2 rfl ?hp2 rfl ?hE2 ?hK2
    case hB2=>(dsimp only[List.map];decide +kernel)
    case hE2=>exact rfl
    case hp2=>
     repeat' (first|(refine qav (fun H hH env=>?_) ?_;rcases znK hH with rfl|rfl)|refine qav (fun env=>?_) ?_|refine wkt ?_|refine wd hs ?_|(apply TO.zbI 3 hadd;(iterate 3 exact rfl);exact Les.refl _;(iterate 8 exact rfl))|(apply TO.indexAddr zaf;(iterate 8 exact rfl);exact hto.1;exact hst)|refine zqc ?_|exact trivial|exact qav rfl rfl|refine wk ?_|fail)
     done
    case hK2=>
     refine ya ?_;exact zac.zaH hlt trivial (by(try dsimp only);exact⟨rfl,rfl,rfl,rfl,rfl,rfl,rfl,trivial⟩) (by(try dsimp only);rw[hj1])
 ·exact zwda
def staS(es:List En)(f:Nat->Auto->Str)(level:Nat)(sts:List Sta)(s:Sta):Str:=
 za2 (level+1) ([115,116,97,116,101,32]++s.name)++zb4 es (level+2) s.locals++zai (zc2 es (level+2) [117,110,108,101,115,115] sts) s.unl++za2 (level+1) [100,111]++zai (zcn es (level+2)) s.eqs++zai (f (level+2)) s.autos++zai (zc2 es (level+2) [117,110,116,105,108] sts) s.unt++za2 (level+1) [100,111,110,101]
def zaT(es:List En):Nat->Nat->Auto->Str
 | 0,_,_=>[]
 | m+1,level,a=>za2 level [97,117,116,111,109,97,116,111,110]++zai (staS es (zaT es m) level a.states) a.states++za2 level [101,110,100]
structure ShSt (n:Nat) (P:Auto->Prop) (s:Sta):Prop where
 name:s.name.length≤3000000
 locals:∀d∈s.locals,ShD d
 fewL:s.locals.length≤1000
 eqs:∀q∈s.eqs,ShQ q
 fewQ:s.eqs.length≤1000000
 autos:∀a∈s.autos,P a
 fewA:s.autos.length≤1000000
 unl:∀q∈s.unl,ShTr n q
 fewU:s.unl.length≤1000000
 unt:∀q∈s.unt,ShTr n q
 fewV:s.unt.length≤1000000
def ShAu:Nat->Auto->Prop
 | 0,_=>False
 | m+1,a=>a.states.length≤1000000/\∀s∈a.states,ShSt a.states.length (ShAu m) s
abbrev Adds (es:List En)(f:FuncId)(args:List SV)(t g:Str):Prop:=Sound Tryz.prog f (.tref lnT 4 1 0::args) (ln1 es t) (fun r H'=>r= .ret (.tup [])/\H'=ln1 es (t++g))
theorem zcV(es:List En)(l s:Str)(level:Nat)(hv:level≤100)(hl:l.length+(za2 level s).length≤1000000000):Adds es 31 [.i level,.s s] l (za2 level s):=zcs true es l s level hv hl
theorem zhR {es:List En} (h:ShE es) (hT:∀t:Int,(zdn es t).1.length≤3000000):∀(m level:Nat) (a:Auto) (t:Str),ShAu m a->level+2*m≤90->t.length+(zaT es m level a).length≤1000000000->Adds es 127 [.i level,.t (zam a)] t (zaT es m level a)
 | 0,_,_,_,ha,_,_=>ha.elim
 | m+1,level,a,t,ha,hv,hb=>by
   have ih:=zhR h hT m (level+2);obtain⟨sts⟩:=a;obtain⟨hfs,hst⟩:=ha;simp only[Auto.states]at hfs hst;have hml:(sts.map staT).length=sts.length:=qac _
   have hbb:t.length+((za2 level [97,117,116,111,109,97,116,111,110]).length+(zai (staS es (zaT es m) level sts) sts).length+(za2 level [101,110,100]).length)≤1000000000:=by
    have:=hb
    simp only[zaT,Auto.states,qab]at this;exact this
   clear hb;have hrr:zaT es (m+1) level (.mk sts)=za2 level [97,117,116,111,109,97,116,111,110]++zai (staS es (zaT es m) level sts) sts++za2 level [101,110,100]:=rfl;rw[hrr];clear hrr;have h1:=zcV es t [97,117,116,111,109,97,116,111,110] level oA oA;have h2:=zcV es (t++za2 level [97,117,116,111,109,97,116,111,110]++zai (staS es (zaT es m) level sts) sts) [101,110,100] level oA (by simp only[qab];omega);rw[zd6];simp only[Auto.states];have hc1:((level+1:Nat):Int)=(level:Int)+1:=oA
   have hc2:((level+2:Nat):Int)=(level:Int)+2:=oA
   have hL1:t.length+(za2 level [97,117,116,111,109,97,116,111,110]).length+(zai (staS es (zaT es m) level sts) sts).length≤1000000000:=oA
   rw[<-qab]at hL1;have hap:t++(za2 level [97,117,116,111,109,97,116,111,110]++zai (staS es (zaT es m) level sts) sts++za2 level [101,110,100])=t++za2 level [97,117,116,111,109,97,116,111,110]++zai (staS es (zaT es m) level sts) sts++za2 level [101,110,100]:=by simp only[qay]
   unfold Adds at h1 h2⊢;rw[hap];clear hap hbb;refine so Tryz.func127 ?_;repeat' (first|refine wkt ?_|(apply TO.zbI 3 h1;(iterate 3 exact rfl);exact Les.refl _;(iterate 8 exact rfl))|exact wkc|refine wk2 ?_ ?_|intro hc)
   generalize t++za2 level [97,117,116,111,109,97,116,111,110]=t1 at*;generalize za2 level [101,110,100]=le at*;clear h1;refine TR.zaz sts.length (fun _=>True) (fun j=>[(0,.tref lnT 4 1 0),(1,.i level),(5,.cp [.sl 6 (sts.map staT)] 0),(12,.t (.sl 6 (sts.map staT))),(13,.i sts.length),(14,.i j)]) (fun j=>ln1 es (t1++zai (staS es (zaT es m) level sts) (sts.take j))) trivial (fun j hlt _=>?_) (fun _=>?_) ⟨rfl,rfl,rfl,rfl,by rw[<-hml];rfl,rfl,trivial⟩ (by simp[zai])
   ·have hx:=zbc staT hlt;have htk:=zbg hlt;have hfl:=zce (staS es (zaT es m) level sts) sts (j+1);rw[htk,zaP,qab]at hfl;have hj1:t1++zai (staS es (zaT es m) level sts) (sts.take (j+1))=t1++zai (staS es (zaT es m) level sts) (sts.take j)++staS es (zaT es m) level sts sts[j]:=by rw[htk,zaP,qay]
    have hlb:(t1++zai (staS es (zaT es m) level sts) (sts.take j)).length+(staS es (zaT es m) level sts sts[j]).length≤1000000000:=by
     rw[qab];omega
    have hs:=hst _ (qak hlt);have hnm:∀s∈sts,s.name.length≤3000000:=fun s hh=>(hst s hh).name
    clear hfl hL1 h2;generalize t1++zai (staS es (zaT es m) level sts) (sts.take j)=acc at*;rw[zdf]at hx;generalize hSt:sts[j]=st at*;have hsp:staS es (zaT es m) level sts st=staS es (zaT es m) level sts st:=rfl
    conv at hsp=>rhs;unfold staS
    rw[hsp]at hlb hj1;clear hsp;simp only[qab]at hlb;have a1:=zcV es acc ([115,116,97,116,101,32]++st.name) (level+1) oA oA;generalize za2 (level+1) ([115,116,97,116,101,32]++st.name)=p1 at*;have a2:=zf5 h hT (acc++p1) (level+2) oA st.locals hs.locals hs.fewL (by simp only[qab];omega);generalize zb4 es (level+2) st.locals=p2 at*;have a3:=zhb h (acc++p1++p2) [117,110,108,101,115,115] oB (level+2) oA sts hnm st.unl hs.unl hs.fewU (by simp only[qab];omega);generalize zai (zc2 es (level+2) [117,110,108,101,115,115] sts) st.unl=p3 at*;have a4:=zcV es (acc++p1++p2++p3) [100,111] (level+1) oA (by simp only[qab];omega);generalize za2 (level+1) [100,111]=p4 at*;have a5:=zhU h (zaT es m (level+2)) (acc++p1++p2++p3++p4) (level+2) oA st.eqs st.autos hs.eqs hs.fewQ hs.fewA (fun a ha t ht=>ih a t (hs.autos a ha) oA ht) (by simp only[qab];omega);generalize zai (zcn es (level+2)) st.eqs=p5 at*;generalize zai (zaT es m (level+2)) st.autos=p6 at*;have a7:=zhb h (acc++p1++p2++p3++p4++p5++p6) [117,110,116,105,108] oB (level+2) oA sts hnm st.unt hs.unt hs.fewV (by simp only[qab];omega);generalize zai (zc2 es (level+2) [117,110,116,105,108] sts) st.unt=p7 at*;have a8:=zcV es (acc++p1++p2++p3++p4++p5++p6++p7) [100,111,110,101] (level+1) oA (by simp only[qab];omega);generalize za2 (level+1) [100,111,110,101]=p8 at*;have hsl:=hs.name;clear hs hnm hst ih hlb;unfold Adds at a1 a4 a8;simp only[hc1,hc2]at a1 a2 a3 a4 a5 a7 a8;have hj2:acc++(p1++p2++p3++p4++p5++p6++p7++p8)=acc++p1++p2++p3++p4++p5++p6++p7++p8:=by simp only[qay]
    rw[hj2]at hj1;repeat' (first|refine wkt ?_|refine zqg ?_|(apply TO.zbI 3 a1;(iterate 3 exact rfl);exact Les.refl _;(iterate 8 exact rfl))|(apply TO.zbI 3 a2;(iterate 3 exact rfl);exact Les.refl _;(iterate 8 exact rfl))|(apply TO.zbI 3 a3;(iterate 3 exact rfl);exact Les.refl _;(iterate 8 exact rfl))|(apply TO.zbI 3 a4;(iterate 3 exact rfl);exact Les.refl _;(iterate 8 exact rfl))|(apply TO.zbI 3 a5;(iterate 3 exact rfl);exact Les.refl _;(iterate 8 exact rfl))|(apply TO.zbI 3 a7;(iterate 3 exact rfl);exact Les.refl _;(iterate 8 exact rfl))|(apply TO.zbI 3 a8;(iterate 3 exact rfl);exact Les.refl _;(iterate 8 exact rfl))|refine zqc ?_|exact wkc|intro hc|refine wk2 ?_ ?_|refine wk ?_|fail)
    exact zac.zaH hlt trivial (by(try dsimp only);exact⟨rfl,rfl,rfl,rfl,rfl,rfl,trivial⟩) (by(try dsimp only);rw[hj1])
   ·rw[qap];repeat' (first|refine wkt ?_|(apply TO.zbI 3 h2;(iterate 3 exact rfl);exact Les.refl _;(iterate 8 exact rfl))|exact wkc|refine wk2 ?_ ?_|refine wk ?_|intro hc)
    exact RetK.zih 3 rfl (Le.refl _) rfl rfl rfl rfl rfl ⟨rfl,rfl⟩
def zaI(es:List En)(word:Str)(e:Ex):Str:=za2 1 (word++[32]++shF es 400 e++[59])
def zhj(es:List En)(n:Nod):Str:=za2 0 ([110,111,100,101,32]++n.name++[40]++zcd es n.ins++[41,32,114,101,116,117,114,110,115,32,40]++zcd es n.outs++[41])
def zbz(es:List En)(n:Nod):Str:=
 zhj es n++zb4 es 1 n.locals++zai (zaI es [97,115,115,117,109,101]) n.assume++zai (zaI es [101,110,115,117,114,101]) n.ensure++za2 0 [108,101,116]++zai (zcn es 1) n.eqs++zai (zaT es 3 1) n.autos++za2 0 [116,101,108]
structure ShNo (n:Nod):Prop where
 name:n.name.length≤3000000
 ins:∀d∈n.ins,ShD d
 fewI:n.ins.length≤1000
 outs:∀d∈n.outs,ShD d
 fewO:n.outs.length≤1000
 locals:∀d∈n.locals,ShD d
 fewL:n.locals.length≤1000
 eqs:∀q∈n.eqs,ShQ q
 fewQ:n.eqs.length≤1000000
 autos:∀a∈n.autos,ShAu 3 a
 fewA:n.autos.length≤1000000
 assume:∀e∈n.assume,ShOk e/\wEx e≤400
 fewS:n.assume.length≤1000000
 ensure:∀e∈n.ensure,ShOk e/\wEx e≤400
 fewE:n.ensure.length≤1000000
theorem znQ  (h:ShE es) (hT:∀t:Int,(zdn es t).1.length≤3000000) (a:Bool) (t:Str) (n:Nod) (hn:ShNo n) (hb:t.length+(zbz es n).length≤1000000000):
  Sound Tryz.prog 33 [.tref lnT 4 1 0,.t (nodT n)] (lnH a es t) (fun r H'=>r= .ret (.tup [])/\H'=ln1 es (t++zbz es n)):=by
 have hmassume:(n.assume.map exT).length=n.assume.length:=qac _;have hmensure:(n.ensure.map exT).length=n.ensure.length:=qac _;have hee:zbz es n=zbz es n:=rfl
 conv at hee=>rhs;unfold zbz
 have hh1:zhj es n=za2 0 ([110,111,100,101,32]++n.name++[40]++zcd es n.ins++[41,32,114,101,116,117,114,110,115,32,40]++zcd es n.outs++[41]):=rfl;have di:=zeG h hT n.ins hn.ins hn.fewI;have dil:=zgt h hT n.ins hn.ins hn.fewI;have dd:=zeG h hT n.outs hn.outs hn.fewO;have ddl:=zgt h hT n.outs hn.outs hn.fewO;have hnl:=hn.name;have hfa:=hn.fewS;have hfe:=hn.fewE;have hbl:=hb;rw[hee]at hbl;simp only[qab]at hbl;have b1:=zcs a es t ([110,111,100,101,32]++n.name++[40]++zcd es n.ins++[41,32,114,101,116,117,114,110,115,32,40]++zcd es n.outs++[41]) 0 oB (by rw[<-hh1];omega);rw[<-hh1]at b1;have b2:=zf5 h hT (t++zhj es n) 1 oB n.locals hn.locals hn.fewL (by simp only[qab];omega);have b5:=zcV es (t++zhj es n++zb4 es 1 n.locals++zai (zaI es [97,115,115,117,109,101]) n.assume++zai (zaI es [101,110,115,117,114,101]) n.ensure) [108,101,116] 0 oB (by simp only[qab];omega);have b6:=zhU h (zaT es 3 1) (t++zhj es n++zb4 es 1 n.locals++zai (zaI es [97,115,115,117,109,101]) n.assume++zai (zaI es [101,110,115,117,114,101]) n.ensure++za2 0 [108,101,116]) 1 oB n.eqs n.autos hn.eqs hn.fewQ hn.fewA (fun a ha t ht=>zhR h hT 3 1 a t (hn.autos a ha) oB ht) (by simp only[qab];omega);have b8:=zcV es (t++zhj es n++zb4 es 1 n.locals++zai (zaI es [97,115,115,117,109,101]) n.assume++zai (zaI es [101,110,115,117,114,101]) n.ensure++za2 0 [108,101,116]++zai (zcn es 1) n.eqs++zai (zaT es 3 1) n.autos) [116,101,108] 0 oB (by simp only[qab];omega);have hap:t++zbz es n=t++zhj es n++zb4 es 1 n.locals++zai (zaI es [97,115,115,117,109,101]) n.assume++zai (zaI es [101,110,115,117,114,101]) n.ensure++za2 0 [108,101,116]++zai (zcn es 1) n.eqs++zai (zaT es 3 1) n.autos++za2 0 [116,101,108]:=by rw[hee];simp only[qay]
 rw[hap];clear hap hee hh1 hb;unfold Adds at b5 b8;have hlen1:(t++zhj es n++zb4 es 1 n.locals).length+(zai (zaI es [97,115,115,117,109,101]) n.assume).length+(zai (zaI es [101,110,115,117,114,101]) n.ensure).length≤1000000000:=by simp only[qab];omega
 clear hbl;generalize zhj es n=p1 at*;generalize zb4 es 1 n.locals=p2 at*;generalize zai (zcn es 1) n.eqs=p6 at*;generalize zai (zaT es 3 1) n.autos=p7 at*;generalize za2 0 [108,101,116]=p5 at*;generalize za2 0 [116,101,108]=p8 at*;generalize zcd es n.ins=si at*;generalize zcd es n.outs=su at*;cases a
 all_goals
  unfold lnH at*;simp only[cond_true,cond_false]at*;unfold nodT;refine so Tryz.func33 ?_;repeat' (first|refine wkt ?_|fail)
  apply TR.zfC (envF:=_) (HF:=ln1 es (t++p1)) [(_,false),(_,false),(_,false),(_,false),(_,false),(_,false),(_,false),(_,false),(_,false),(_,false),(_,false),(_,false),(_,false),(_,false),(_,false),(_,false),(_,false),(_,false),(_,false),(_,false),(_,false),(_,false),(_,false),(_,true)] [_,ln1 es (t++p1)] hmix
  case hB=>(dsimp only[List.map];decide +kernel)
  case h0=>exact rfl
  case hF=>exact rfl
  case hp=>
   repeat' (first|(refine qav (fun H hH env=>?_) ?_;rcases znK hH with rfl|rfl)|refine qav (fun env=>?_) ?_|refine wma ?_|(apply TO.zbI 1 di;(iterate 3 exact rfl);exact Les.refl _;(iterate 8 exact rfl))|(apply TO.zbI 1 dd;(iterate 3 exact rfl);exact Les.refl _;(iterate 8 exact rfl))|(apply TO.zbI 3 b1;(iterate 3 exact rfl);exact Les.refl _;(iterate 8 exact rfl))|(apply TO.cat;(iterate 3 exact rfl);exact zqe)|exact trivial|exact qav rfl rfl|refine wmk ?_|fail)
   done
  case hE=>exact rfl
  case hK=>
  repeat' (first|refine wkt ?_|(apply TO.zbI 3 b2;(iterate 3 exact rfl);exact Les.refl _;(iterate 8 exact rfl))|exact wkc|refine wk2 ?_ ?_|intro hc)
  generalize hacc:t++p1++p2=acc at*;clear b1 b2 di dd;refine TR.zaz n.assume.length (fun _=>True) (fun j=>[(0,.tref lnT 4 1 0),(3,.cp (nodC n) 0),(37,.t (.sl 6 (n.assume.map exT))),(38,.i n.assume.length),(39,.i j)]) (fun j=>ln1 es (acc++zai (zaI es [97,115,115,117,109,101]) (n.assume.take j))) trivial (fun j hlt _=>?_) (fun _=>?_) ⟨rfl,rfl,rfl,by rw[<-hmassume];rfl,rfl,trivial⟩ (by simp[zai])
  ·have hx:=zbc exT hlt;rw[zan]at hx;have htk:=zbg hlt;have hqq:=hn.assume _ (qak hlt);have hs:=zct h 400 _ hqq.1 hqq.2 oB;have hfl:=zce (zaI es [97,115,115,117,109,101]) n.assume (j+1);rw[htk,zaP,qab]at hfl;have hj1:acc++zai (zaI es [97,115,115,117,109,101]) (n.assume.take (j+1))=acc++zai (zaI es [97,115,115,117,109,101]) (n.assume.take j)++zaI es [97,115,115,117,109,101] n.assume[j]:=by rw[htk,zaP,qay]
   have hadd:=zcV es (acc++zai (zaI es [97,115,115,117,109,101]) (n.assume.take j)) ([97,115,115,117,109,101]++[32]++shF es 400 n.assume[j]++[59]) 1 oB (by
    show _+(zaI es [97,115,115,117,109,101] n.assume[j]).length≤_;rw[qab];omega)
   have hee:zaI es [97,115,115,117,109,101] n.assume[j]=za2 1 ([97,115,115,117,109,101]++[32]++shF es 400 n.assume[j]++[59]):=rfl;rw[<-hee]at hadd
   have hgl:(shF es 400 n.assume[j]).length≤5000000000:=by
    have h1:=ziD h 400 _ hqq.1;have h2:wEx n.assume[j]*12000100≤400*12000100:=qaH _ hqq.2;omega
   clear hqq hfl hee;unfold Adds at hadd;unfold ShC at hs;generalize zaI es [97,115,115,117,109,101] n.assume[j]=ln at*;generalize shF es 400 n.assume[j]=g at*;generalize acc++zai (zaI es [97,115,115,117,109,101]) (n.assume.take j)=ac2 at*;generalize n.assume[j]=q at*;exact zwa
  rw[qap];repeat' (first|refine wkt ?_|refine zac.exit ?_|exact wkc|refine wk2 ?_ ?_|intro hc)
  have hlen2:(acc++zai (zaI es [97,115,115,117,109,101]) n.assume).length+(zai (zaI es [101,110,115,117,114,101]) n.ensure).length≤1000000000:=by rw[qab];exact hlen1
  clear hlen1;clear hacc;generalize acc++zai (zaI es [97,115,115,117,109,101]) n.assume=acc at*;refine TR.zaz n.ensure.length (fun _=>True) (fun j=>[(0,.tref lnT 4 1 0),(3,.cp (nodC n) 0),(55,.t (.sl 6 (n.ensure.map exT))),(56,.i n.ensure.length),(57,.i j)]) (fun j=>ln1 es (acc++zai (zaI es [101,110,115,117,114,101]) (n.ensure.take j))) trivial (fun j hlt _=>?_) (fun _=>?_) ⟨rfl,rfl,rfl,by rw[<-hmensure];rfl,rfl,trivial⟩ (by simp[zai])
  ·have hx:=zbc exT hlt;rw[zan]at hx;have htk:=zbg hlt;have hqq:=hn.ensure _ (qak hlt);have hs:=zct h 400 _ hqq.1 hqq.2 oB;have hfl:=zce (zaI es [101,110,115,117,114,101]) n.ensure (j+1);rw[htk,zaP,qab]at hfl;have hj1:acc++zai (zaI es [101,110,115,117,114,101]) (n.ensure.take (j+1))=acc++zai (zaI es [101,110,115,117,114,101]) (n.ensure.take j)++zaI es [101,110,115,117,114,101] n.ensure[j]:=by rw[htk,zaP,qay]
   have hadd:=zcV es (acc++zai (zaI es [101,110,115,117,114,101]) (n.ensure.take j)) ([101,110,115,117,114,101]++[32]++shF es 400 n.ensure[j]++[59]) 1 oB (by
    show _+(zaI es [101,110,115,117,114,101] n.ensure[j]).length≤_;rw[qab];omega)
   have hee:zaI es [101,110,115,117,114,101] n.ensure[j]=za2 1 ([101,110,115,117,114,101]++[32]++shF es 400 n.ensure[j]++[59]):=rfl;rw[<-hee]at hadd
   have hgl:(shF es 400 n.ensure[j]).length≤5000000000:=by
    have h1:=ziD h 400 _ hqq.1;have h2:wEx n.ensure[j]*12000100≤400*12000100:=qaH _ hqq.2;omega
   clear hqq hfl hee;unfold Adds at hadd;unfold ShC at hs;generalize zaI es [101,110,115,117,114,101] n.ensure[j]=ln at*;generalize shF es 400 n.ensure[j]=g at*;generalize acc++zai (zaI es [101,110,115,117,114,101]) (n.ensure.take j)=ac2 at*;generalize n.ensure[j]=q at*;exact zwa
  rw[qap];repeat' (first|refine wkt ?_|refine zac.exit ?_|(apply TO.zbI 3 b5;(iterate 3 exact rfl);exact Les.refl _;(iterate 8 exact rfl))|(apply TO.zbI 3 b6;(iterate 3 exact rfl);exact Les.refl _;(iterate 8 exact rfl))|(apply TO.zbI 3 b8;(iterate 3 exact rfl);exact Les.refl _;(iterate 8 exact rfl))|exact wkc|refine wk2 ?_ ?_|refine wk ?_|intro hc)
  exact RetK.zih 3 rfl (Le.refl _) rfl rfl rfl rfl rfl ⟨rfl,rfl⟩
def zex(u:En):Str:=za2 0 ([116,121,112,101,32]++u.name++[32,61,32]++Go.Lib.join u.tags [32,124,32]++[59])
def zeU(p:Prog):Str:=zai zex p.enums++zai (zbz p.enums) p.nodes
def zgJ(p:Prog):Str×Int:=if(zaX p).2=0 then(zeU p,0) else([],(zaX p).2)
structure ShEn (u:En):Prop where
 name:u.name.length≤3000000
 few:u.tags.length≤1000
 tags:∀t∈u.tags,t.length≤3000000
theorem ShEn.len{u:En}(h:ShEn u):(Go.Lib.join u.tags [32,124,32]).length≤3000003000:=
 qax (zcL [32,124,32] 3000000 _ h.tags) (qax (qaH _ h.few) oB)
structure ShPr (p:Prog):Prop where
 es:ShE p.enums
 ty:∀t:Int,(zdn p.enums t).1.length≤3000000
 enums:∀u∈p.enums,ShEn u
 fewE:p.enums.length≤1000000
 nodes:∀n∈p.nodes,ShNo n
 fewN:p.nodes.length≤1000000
 len:(zeU p).length≤1000000000
end Go.Proofs.YtdicfgideclbdaaGreatDoor
