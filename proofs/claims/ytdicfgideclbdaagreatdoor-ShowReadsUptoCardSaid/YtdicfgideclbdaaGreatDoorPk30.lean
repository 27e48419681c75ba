import Derived.Test.YtdicfgideclbdaaGreatDoorPk25
set_option maxHeartbeats 64000000
set_option linter.all false
namespace Go.Proofs.YtdicfgideclbdaaGreatDoor
open Go Go.TL
attribute [local irreducible] TR TO Then zal RetK Sound zab Kf GG zaR
variable {u:En}{p:Prog}{st:List (Int×Str×Int)}
section
theorem zhT(n q c:Int)(a b d:SV)(Hr:Heap)(hb:zaa (Hr.length+2) Hr=true):
  zcP Tryz.prog 46 [.ref 0 0,.ref 1 0] (.cells [a,b]:: .cells [d]::Hr) (some (zct n q c)) (fun H3=>H3= .cells [.i n,.i q]:: .cells [.i c]::Hr):=by
 refine zcP.of (tab:=tab) Tryz.func46 oD rfl rfl rfl rfl ?_;repeat' (first|refine wu ?_|exact wkc|refine wk2 ?_ ?_|(apply TO.zk8 zaf;(iterate 4 exact rfl))|intro hc)
 refine Then.normal ?_;repeat' (first|refine wkt ?_|fail)
 refine TR.zkw (envF:=?envF) (HF:=.cells [.i n,.i q]:: .cells [.i c]::Hr) [(.cp [T.i n,T.i q,T.i c] 0,false),(.t (.ag [T.i n,T.i q]),false),(.cp [T.i n,T.i q,T.i c] 2,false),(.i c,false),(.any,true),(.any,true)] [.cells [a,b]:: .cells [d]::Hr,.cells [.i n,.i q]:: .cells [d]::Hr,.cells [.i n,.i q]:: .cells [.i c]::Hr] hmix ?hB ?h0 ?hp ?hF ?hE ?hK
 case hB=>(dsimp only[List.map];decide +kernel)
 case h0=>exact rfl
 case hF=>exact rfl
 case hE=>exact rfl
 case hp=>repeat' (first|refine wu ?_|exact trivial|exact qav rfl rfl|refine qav (fun H env=>?_) ?_|refine qav (fun env=>?_) ?_|fail)
 refine ya ?_;have ht:(Blk.cells [.i n,.i q]::Blk.cells [.i c]::Hr).take (Blk.cells [a,b]::Blk.cells [d]::Hr).length=Blk.cells [.i n,.i q]::Blk.cells [.i c]::Hr:=oC
 refine⟨qag _,?_,ht⟩;show zaa _ (List.take _ (Blk.cells [.i n,.i q]::Blk.cells [.i c]::Hr))=true;rw[ht];exact hb
theorem zne(H:Heap)(hb:zaa H.length H=true):
  zcP Tryz.prog 46 [.ref 0 0,.ref 1 0] H none (fun H3=>H3=H):=by
 refine zcP.of (tab:=tab) Tryz.func46 oD rfl rfl rfl rfl ?_;repeat' (first|refine wu ?_|exact wkc|refine wk2 ?_ ?_|(apply TO.zi8 zaf;(iterate 4 exact rfl))|intro hc)
 refine Then.normal ?_;refine ya ?_;exact⟨qag _,by rw[qaJ (qag _)];exact hb,qaJ (qag _)⟩
theorem Hands.twoC{G:Heap}{i j:Nat}{b c:Blk}(hij:Nat.beq i j=false)(h1:G[i]?=some (b.ren (names [i,j] G.length)))(h2:G[j]?=some (c.ren (names [i,j] G.length)))(hb:b.under 2=true)(hc:c.under 2=true):Hands G [i,j] [b,c] where
 nodup:=by
  have:i≠j:=fun e=>by rw[e]at hij;simp at hij
  simp[this]
 lt:=fun x hx=>by
  simp at hx;rcases hx with rfl|rfl
  ·exact(qaa.1 h1).1
  ·exact(qaa.1 h2).1
 len:=rfl
 H:=fun a x y ha hy=>by
  match a with
  | 0=>simp at ha hy;subst ha hy;exact h1
  | 1=>simp at ha hy;subst ha hy;exact h2
  | a+2=>simp at ha
 under:=fun a y hy=>by
  match a with
  | 0=>simp at hy;subst hy;exact hb
  | 1=>simp at hy;subst hy;exact hc
  | a+2=>simp at hy
theorem we32{G Q1 Q2:Prop}{f:FuncId}{cargs:List SV}{v pv:SV}{c:Int}{Hc H1:Heap}(hs:Sound Tryz.prog f cargs Hc (Err c v pv H1))(k1:Q1)(k2:Q2)(h:Sound Tryz.prog f cargs Hc (Err c v pv H1)->Hold Q1->Hold Q2->G:=by
  intro hs k1 k2
  (apply TO.zll [3,2] hs;(iterate 3 exact rfl);exact zqa;exact rfl;exact Go.Proofs.YtdicfgideclbdaaGreatDoor.Hands.twoC rfl rfl rfl rfl rfl;(iterate 4 exact rfl);exact k1.p;exact k2.p)):G:=h hs ⟨k1⟩ ⟨k2⟩
theorem zAl:u.name.length≤(enT u).w/\(∀s∈u.tags,s.length≤(enT u).w)/\u.tags.length≤(enT u).w:=by
 rw[enT,w_ag];simp only[qaf,qaD,qaG,qaX,w_s]
 refine⟨oA,fun s hs=>?_,?_⟩
 ·have:=zaJ (f:=T.s) (sz:=1) hs;rw[w_s]at this;omega
 ·have:=zaz T.s 1 u.tags;omega
theorem zxe(h:zaW st/\zcq p st){k v:Int}{s:Str}(hk:0≤k/\k≤2)(h1:k≠1)(hs:s.length≤1000000000)(hz:(addF st (k,s,v)).2=0):zaW (addF st (k,s,v)).1/\zcq p (addF st (k,s,v)).1:=by
 have hn:zaC st k s=none:=by
  unfold addF at hz;cases hg:zaC st k s with
  | none=>rfl
  | some w=>simp[hg]at hz
 exact⟨h.1.add hk hs hn,h.2.add' h1⟩
theorem zwX(ht:∀s∈u.tags,s.length≤1000000000){i:Int}(h:zaW st/\zcq p st)(j:Nat)(hz:(zah addF st ((zeQ u i).take j)).2=0):zaW (zah addF st ((zeQ u i).take j)).1/\zcq p (zah addF st ((zeQ u i).take j)).1:=by
 refine zbQ (f:=addF) (G:=fun _ st=>zaW st/\zcq p st) (w:=fun _=>0) _ (fun B a x hx h hz=>?_) 0 st h hz;obtain⟨s,hs,rfl⟩:=qaL.1 (qaS hx);exact zxe h oB oB (ht s hs) hz
theorem zvS(st:List (Int×Str×Int))(u:En)(k:Nat):enF st (u,k)=if(addF st (2,u.name,(k:Int))).2=0 then zah addF (addF st (2,u.name,(k:Int))).1 (zeQ u k) else addF st (2,u.name,(k:Int)):=rfl
theorem enOk(ht:∀s∈u.tags,s.length≤1000000000)(hn:u.name.length≤1000000000){k:Nat}(h:zaW st/\zcq p st)(hz:(enF st (u,k)).2=0):zaW (enF st (u,k)).1/\zcq p (enF st (u,k)).1:=by
 rw[zvS]at hz⊢;split at hz
 ·rename_i h0;rw[oG h0]
  have:=zwX (p:=p) ht (i:=k) (zxe h oB oB hn h0) (zeQ u k).length (by rw[qap];exact hz)
  rw[qap]at this;exact this
 ·rename_i h0;exact oI hz h0
theorem zzg(ht:∀u∈p.enums,u.name.length≤1000000000/\∀s∈u.tags,s.length≤1000000000)(k:Nat)(hz:(zah enF [] (p.enums.zipIdx.take k)).2=0):zaW (zah enF [] (p.enums.zipIdx.take k)).1/\zcq p (zah enF [] (p.enums.zipIdx.take k)).1:=by
 refine zbQ (f:=enF) (G:=fun _ st=>zaW st/\zcq p st) (w:=fun _=>0) _ (fun B a x hx h hz=>?_) 0 [] ⟨zaW.nil,fun s i h=>by simp[zaC]at h⟩ hz;have hm:=(List.mem_zipIdx (qaS hx)).2.2;obtain⟨u,k⟩:=x;have hu:u∈p.enums:=by simp only at hm;rw[hm];exact qai _
 exact enOk (ht u hu).2 (ht u hu).1 h hz
theorem zzQ(ht:∀u∈p.nodes,u.name.length≤1000000000)(h:zaW st/\zcq p st)(k:Nat)(hz:(zah (nodF p) st (p.nodes.zipIdx.take k)).2=0):zaW (zah (nodF p) st (p.nodes.zipIdx.take k)).1/\zcq p (zah (nodF p) st (p.nodes.zipIdx.take k)).1:=by
 refine zbQ (f:=nodF p) (G:=fun _ st=>zaW st/\zcq p st) (w:=fun _=>0) _ (fun B a x hx h hz=>?_) 0 st h hz;have hm:=List.mem_zipIdx (qaS hx);obtain⟨u,k⟩:=x;have hu:u∈p.nodes:=by have:=hm.2.2;simp only at this;rw[this];exact qai _
 have hk:k<p.nodes.length:=by have:=hm.2.1;simp only at this;omega
 have hn:zaC a 1 u.name=none:=by
  unfold nodF zc8 at hz;cases hg:zaC a 1 u.name with
  | none=>rfl
  | some w=>rw[hg]at hz;simp at hz
 exact⟨h.1.add oB (ht u hu) hn,h.2.add hk⟩
abbrev lk3 (p:Prog)(n q:Int):Blk:=.cells [.t (.sl 2 (p.enums.map enT)),.t (zbK p.nodes),.i n,.i q,.mp 2]
theorem zg6.ret{P:Program}{n:Nat}{c:Code}{K KD:TK}{gf:FuncId}{cv:List SV}{env:_}{H:Heap}(h:K .ret env H):zg6 P n c K gf cv KD .ret env H:=h
theorem zg6.normal{P:Program}{n:Nat}{c:Code}{K KD:TK}{gf:FuncId}{cv:List SV}{env:_}{H:Heap}(h:TD P n c env H K gf cv KD):zg6 P n c K gf cv KD .normal env H:=h
attribute [local irreducible] TD zg6
theorem zmo (p:Prog) (hw:(T.ag (za3 p)).w≤100000000):Pure Tryz.prog 18 [.t (.ag (za3 p))] (.tup [.t (.ag [T.i (zcL p).1.1,T.i (zcL p).1.2]),.i (zcL p).2]):=by
 have l1:(T.sl 2 (p.enums.map enT)).w+(zbK p.nodes).w≤(T.ag (za3 p)).w:=by rw[w_ag];simp only[za3,qaf,qaD,qaG,qaX];omega
 have hnT:(zbK p.nodes).w=(T.sl 8 (p.nodes.map nodT)).w:=rfl;have b1:=zaz enT 2 p.enums;have b2:=zaz nodT 8 p.nodes;have m1:(p.enums.map enT).length=p.enums.length:=qac _;have m2:(p.nodes.map nodT).length=p.nodes.length:=qac _;have hsh:=zeO p oA;have hz:zcL p=zcL p:=rfl
 conv at hz=>rhs;unfold zcL
 generalize zcL p=z at hz⊢;have hpc:za3 p=[.sl 2 (p.enums.map enT),zbK p.nodes]:=rfl;rw[hpc]at hsh⊢;have hsn:=zit (p:=p);generalize zaY p=sx at*;obtain⟨⟨s1,s2⟩,s3⟩:=sx;simp only at hz hsh hsn;refine Sound.znL zaf Tryz.func18 oD rfl rfl (gf:=46) (cv:=[.ref 0 0,.ref 1 0]) ?_;refine TD.seq ?_;repeat' (first|refine wu ?_|fail)
 refine zg6.normal ?_;refine TD.seq ?_;refine wk ?_;repeat' (first|refine wu ?_|exact wkc|refine wk2 ?_ ?_|refine wv hsh ?_|intro hc)
 ·refine zg6.ret ?_;rw[oG (by simpa using hc)]at hz;subst hz;exact wkr
 rw[oH (by simpa using hc)]at hz;have hz0:s3=0:=by simpa using hc
 have hsn:=hsn hz0;refine zg6.normal ?_;refine TD.defer (tz:=0) rfl rfl ?_;repeat' (first|refine wu ?_|exact wkc|refine wk2 ?_ ?_|intro hc)
 have hze:p.enums.zipIdx.length=p.enums.length:=oC
 have hzn:p.nodes.zipIdx.length=p.nodes.length:=oC
 have hle:∀u∈p.enums,u.name.length≤1000000000/\∀s∈u.tags,s.length≤1000000000:=fun u hu=>by
  have h1:=zAl (u:=u);have h2:=zaJ (f:=enT) (sz:=2) hu;exact⟨oA,fun s hs=>by have:=h1.2.1 s hs;omega⟩
 have hlt':∀u∈p.enums,u.tags.length≤1000000000:=fun u hu=>by
  have h1:=zAl (u:=u);have h2:=zaJ (f:=enT) (sz:=2) hu;omega
 have hln:∀u∈p.nodes,(nodT u).w≤100000000:=fun u hu=>by
  have h2:=zaJ (f:=nodT) (sz:=8) hu;omega
 refine TR.zay p.enums.length (fun k=>(zah enF [] (p.enums.zipIdx.take k)).2=0) (fun k=>[(1,.cp [.sl 2 (p.enums.map enT),zbK p.nodes] 0),(2,.ref 0 0),(3,.ref 1 0),(6,.ref 3 0),(28,.t (.sl 2 (p.enums.map enT))),(29,.i (p.enums.map enT).length),(30,.i k)])
  (fun k=>[.cells [.i 0,.i 0],.cells [.i 0],zb4 (zah enF [] (p.enums.zipIdx.take k)).1,lk3 p (-1) (-1)]) rfl (fun k hlt ha=>?_) (fun ha=>?_)
 ·have hx:(p.enums.map enT)[k]?=some (.ag [.s p.enums[k].name,.sl 1 (p.enums[k].tags.map T.s)]):=zaL enT hlt;have g1:=zcH (f:=enF) (by rw[hze];exact hlt) ha;have g2:=zbz (f:=enF) (by rw[hze];exact hlt) ha;have hok:=zzg (p:=p) hle k ha;have hzi:p.enums.zipIdx[k]'(by rw[hze];exact hlt)=(p.enums[k],k):=oC
  rw[hzi]at g1 g2;have hnm:=hle _ (qai hlt);have htl:=hlt' _ (qai hlt);generalize (zah enF [] (p.enums.zipIdx.take k)).1=st at*;generalize p.enums[k]=u at*;have hmt:(u.tags.map T.s).length=u.tags.length:=qac _;have hs:Sound Tryz.prog 47 [.ref 0 0,.t (.ag [.i 2,.s u.name]),.i k] [lkB p (-1) (-1),zb4 st] (Err (addF st (2,u.name,(k:Int))).2 (.tup []) (zct (-1) (-1) (addF st (2,u.name,(k:Int))).2) [lkB p (-1) (-1),zb4 (addF st (2,u.name,(k:Int))).1]):=zhD p (-1) (-1) st hok.1 2 k oB u.name hnm.1;have hok1:=fun hz=>zxe (p:=p) hok (k:=2) (v:=k) oB oB hnm.1 hz
  rw[zvS]at g1 g2;generalize addF st (2,u.name,(k:Int))=a1 at*;clear ha hle hlt' hln hsn;repeat' (first|refine wkt ?_|refine wka ?_|refine wk ?_|exact wkc|refine wk2 ?_ ?_|refine we32 hs ?_ ?_|intro hc)
  ·rw[oG hc]at g1 g2;have hok2:=hok1 hc;clear hs;have hzt:(zeQ u k).length=u.tags.length:=qac _
   refine TR.zay u.tags.length (fun j=>(zah addF a1.1 ((zeQ u k).take j)).2=0) (fun j=>[(1,.cp [.sl 2 (p.enums.map enT),zbK p.nodes] 0),(2,.ref 0 0),(3,.ref 1 0),(6,.ref 3 0),(28,.t (.sl 2 (p.enums.map enT))),(29,.i (p.enums.map enT).length),(30,.i k),(7,.i k),(42,.t (.sl 1 (u.tags.map T.s))),(43,.i (u.tags.map T.s).length),(44,.i j)])
    (fun j=>[.cells [.i 0,.i 0],.cells [.i 0],zb4 (zah addF a1.1 ((zeQ u k).take j)).1,lk3 p (-1) (-1)]) rfl (fun j hlj ha=>?_) (fun ha=>?_)
   ·have hx2:(u.tags.map T.s)[j]?=some (.s u.tags[j]):=zaL T.s hlj;have r1:=zcH (f:=addF) (by rw[hzt];exact hlj) ha;have r2:=zbz (f:=addF) (by rw[hzt];exact hlj) ha;have hok3:=zwX (p:=p) hnm.2 hok2 j ha;have hzi2:(zeQ u k)[j]'(by rw[hzt];exact hlj)=(0,u.tags[j],(k:Int)):=by simp[zeQ]
    rw[hzi2]at r1 r2;have hsm:=hnm.2 _ (qai hlj);generalize (zah addF a1.1 ((zeQ u k).take j)).1=st2 at*;generalize u.tags[j]=tg at*;have hs:Sound Tryz.prog 47 [.ref 0 0,.t (.ag [.i 0,.s tg]),.i k] [lkB p (-1) (-1),zb4 st2] (Err (addF st2 (0,tg,(k:Int))).2 (.tup []) (zct (-1) (-1) (addF st2 (0,tg,(k:Int))).2) [lkB p (-1) (-1),zb4 (addF st2 (0,tg,(k:Int))).1]):=zhD p (-1) (-1) st2 hok3.1 0 k oB tg hsm;generalize addF st2 (0,tg,(k:Int))=a2 at*;clear hok1 hok3 hok2;repeat' (first|refine wkt ?_|refine wka ?_|refine wk ?_|exact wkc|refine wk2 ?_ ?_|refine we32 hs ?_ ?_|intro hc)
    ·refine zab.zaD hlj (by rw[r2];exact hc) ?_ (by rw[r2];rfl);repeat' (first|exact trivial|refine qav rfl ?_|fail)
    ·rw[r1 hc]at g1;exact zwba
   rw[show u.tags.length=(zeQ u k).length from hzt.symm,qap]at ha;rw[show u.tags.length=(zeQ u k).length from hzt.symm,qap];clear hok1;refine wk ?_;refine ya ?_;refine zab.zaD hlt (by rw[g2];exact ha) ?_ (by rw[g2]);repeat' (first|exact trivial|refine qav rfl ?_|fail)
  ·rw[oH hc]at g1;exact zwba
 have hok:=zzg (p:=p) hle _ ha;rw[<-hze,qap]at ha hok;rw[<-hze,qap];rw[oH (by simp[ha])]at hz;generalize (zah enF [] p.enums.zipIdx).1=st0 at*;refine wk ?_;repeat' (first|refine wu ?_|exact wkc|refine wk2 ?_ ?_|intro hc)
 have hp:zgN p:=⟨oA,fun u hu=>by
  have h1:=hln u hu;have h2:=zog u;have h3:=zaz zag 3 u.ins;have h4:=zaz zag 3 u.outs;have d1:(zav u.ins).w=(T.sl 3 (u.ins.map zag)).w:=rfl;have d2:(zav u.outs).w=(T.sl 3 (u.outs.map zag)).w:=rfl;omega⟩
 have hnn:∀u∈p.nodes,u.name.length≤1000000000:=fun u hu=>by
  have h1:=hln u hu
  have:u.name.length≤(nodT u).w:=by
   rw[show nodT u= .ag (nodC u) from rfl,w_ag];exact zwed
  omega
 have hno:∀(a b:Int) (st:List (Int×Str×Int)) (k:Nat) (hk:k<p.nodes.length),zaW st->zcq p st->Sound Tryz.prog 48 [.ref 0 0,.i k] [lkB p a b,zb4 st] (Err (nodF p st (p.nodes[k],k)).2 (.tup []) (zct k (zc8 p st k p.nodes[k]).1 (nodF p st (p.nodes[k],k)).2) [lkB p k (-1),zb4 (nodF p st (p.nodes[k],k)).1]):=fun a b st k hk h1 h2=>
  zqE p hp a b st h1 h2 k hk p.nodes[k] (qad hk) (zya (hsn _ (qai hk)) (hln _ (qai hk)))
 clear hle hlt' hsh hsn
 refine TR.zay p.nodes.length (fun k=>(zah (nodF p) st0 (p.nodes.zipIdx.take k)).2=0) (fun k=>[(2,.ref 0 0),(3,.ref 1 0),(6,.ref 3 0),(56,.t (zbK p.nodes)),(57,.i (p.nodes.map nodT).length),(58,.i k)])
  (fun k=>[.cells [.i 0,.i 0],.cells [.i 0],zb4 (zah (nodF p) st0 (p.nodes.zipIdx.take k)).1,lk3 p ((k:Int)-1) (-1)]) rfl (fun k hlt ha=>?_) (fun ha=>?_)
 ·have g1:=zcH (f:=nodF p) (by rw[hzn];exact hlt) ha;have g2:=zbz (f:=nodF p) (by rw[hzn];exact hlt) ha;have g3:=zme p (by rw[hzn];exact hlt) ha;have hok2:=zzQ (p:=p) hnn hok k ha;have hzi:p.nodes.zipIdx[k]'(by rw[hzn];exact hlt)=(p.nodes[k],k):=oC
  rw[hzi]at g1 g2 g3;generalize (zah (nodF p) st0 (p.nodes.zipIdx.take k)).1=st at*;have hs:=hno ((k:Int)-1) (-1) st k hlt hok2.1 hok2.2;generalize nodF p st (p.nodes[k],k)=a1 at*;generalize zc8 p st k p.nodes[k]=a2 at*;clear hno hok2;repeat' (first|refine wkt ?_|refine wka ?_|refine wk ?_|exact wkc|refine wk2 ?_ ?_|refine we32 hs ?_ ?_|intro hc)
  ·refine zab.zaD hlt (by rw[g2];exact hc) ?_ (by rw[g2,show((k+1:Nat):Int)-1=k from oA];rfl);repeat' (first|exact trivial|refine qav rfl ?_|fail)
  ·rw[oH (by rw[g1 hc];exact hc),g1 hc,g3 hc]at hz;subst hz;repeat' (first|refine zab.panic ?_|refine wk ?_|fail)
   exact⟨_,zhT _ _ _ _ _ _ _ rfl,fun H3 h=>by subst h;exact wkr⟩
 rw[<-hzn,qap]at ha;rw[oG ha]at hz;subst hz;refine wk ?_;refine ya ?_;exact⟨_,zne _ rfl,fun H3 h=>by subst h;exact wkr⟩
end
end Go.Proofs.YtdicfgideclbdaaGreatDoor
