import Derived.Test.YtdicfgideclbdaaGreatDoorAk20
set_option maxHeartbeats 64000000
set_option linter.all false
namespace Go.Proofs.YtdicfgideclbdaaGreatDoor
open Go Go.TL
attribute [local irreducible] TR TO Then zaj RetK Sound zac Kf GG zaQ
variable {u:En}{p:Prog}{st:List (Int×Str×Int)}
section
theorem zh1(n q c:Int)(a b d:SV)(Hr:Heap)(hb:zaa (Hr.length+2) Hr=true):
  zcT Tryz.prog 46 [.ref 0 0,.ref 1 0] (.cells [a,b]:: .cells [d]::Hr) (some (zcu n q c)) (fun H3=>H3= .cells [.i n,.i q]:: .cells [.i c]::Hr):=by
 refine zcT.of (tab:=tab) Tryz.func46 oD rfl rfl rfl rfl ?_;repeat' (first|refine wu ?_|exact wkc|refine wk2 ?_ ?_|(apply TO.zll zaf;(iterate 4 exact rfl))|intro hc)
 refine Then.normal ?_;repeat' (first|refine wkt ?_|fail)
 refine TR.zkM (envF:=?envF) (HF:=.cells [.i n,.i q]:: .cells [.i c]::Hr) [(.cp [T.i n,T.i q,T.i c] 0,false),(.t (.ag [T.i n,T.i q]),false),(.cp [T.i n,T.i q,T.i c] 2,false),(.i c,false),(.any,true),(.any,true)] [.cells [a,b]:: .cells [d]::Hr,.cells [.i n,.i q]:: .cells [d]::Hr,.cells [.i n,.i q]:: .cells [.i c]::Hr] hmix ?hB ?h0 ?hp ?hF ?hE ?hK
 case hB=>(dsimp only[List.map];decide +kernel)
 case h0=>exact rfl
 case hF=>exact rfl
 case hE=>exact rfl
 case hp=>repeat' (first|refine wu ?_|exact trivial|exact qav rfl rfl|refine qav (fun H env=>?_) ?_|refine qav (fun env=>?_) ?_|fail)
 refine ya ?_;have ht:(Blk.cells [.i n,.i q]::Blk.cells [.i c]::Hr).take (Blk.cells [a,b]::Blk.cells [d]::Hr).length=Blk.cells [.i n,.i q]::Blk.cells [.i c]::Hr:=oC
 refine⟨qag _,?_,ht⟩;show zaa _ (List.take _ (Blk.cells [.i n,.i q]::Blk.cells [.i c]::Hr))=true;rw[ht];exact hb
theorem znn(H:Heap)(hb:zaa H.length H=true):
  zcT Tryz.prog 46 [.ref 0 0,.ref 1 0] H none (fun H3=>H3=H):=by
 refine zcT.of (tab:=tab) Tryz.func46 oD rfl rfl rfl rfl ?_;repeat' (first|refine wu ?_|exact wkc|refine wk2 ?_ ?_|(apply TO.zjl zaf;(iterate 4 exact rfl))|intro hc)
 refine Then.normal ?_;refine ya ?_;exact⟨qag _,by rw[qaJ (qag _)];exact hb,qaJ (qag _)⟩
theorem Hands.twoC{G:Heap}{i j:Nat}{b c:Blk}(hij:Nat.beq i j=false)(h1:G[i]?=some (b.ren (names [i,j] G.length)))(h2:G[j]?=some (c.ren (names [i,j] G.length)))(hb:b.under 2=true)(hc:c.under 2=true):Hands G [i,j] [b,c] where
 nodup:=by
  have:i≠j:=fun e=>by rw[e]at hij;simp at hij
  simp[this]
 lt:=fun x hx=>by
  simp at hx;rcases hx with rfl|rfl
  ·exact(qaa.1 h1).1
  ·exact(qaa.1 h2).1
 len:=rfl
 H:=fun a x y ha hy=>by
  match a with
  | 0=>simp at ha hy;subst ha hy;exact h1
  | 1=>simp at ha hy;subst ha hy;exact h2
  | a+2=>simp at ha
 under:=fun a y hy=>by
  match a with
  | 0=>simp at hy;subst hy;exact hb
  | 1=>simp at hy;subst hy;exact hc
  | a+2=>simp at hy
theorem we32{G Q1 Q2:Prop}{f:FuncId}{cargs:List SV}{v pv:SV}{c:Int}{Hc H1:Heap}(hs:Sound Tryz.prog f cargs Hc (Err c v pv H1))(k1:Q1)(k2:Q2)(h:Sound Tryz.prog f cargs Hc (Err c v pv H1)->Hold Q1->Hold Q2->G:=by
  intro hs k1 k2
  (apply TO.zlx [3,2] hs;(iterate 3 exact rfl);exact zqa;exact rfl;exact Go.Proofs.YtdicfgideclbdaaGreatDoor.Hands.twoC rfl rfl rfl rfl rfl;(iterate 4 exact rfl);exact k1.p;exact k2.p)):G:=h hs ⟨k1⟩ ⟨k2⟩
theorem zAb:u.name.length≤(enT u).w/\(∀s∈u.tags,s.length≤(enT u).w)/\u.tags.length≤(enT u).w:=by
 rw[enT,w_ag];simp only[qaf,qaD,qaG,qa9,w_s]
 refine⟨oA,fun s hs=>?_,?_⟩
 ·have:=zaY (f:=T.s) (sz:=1) hs;rw[w_s]at this;omega
 ·have:=zaD T.s 1 u.tags;omega
theorem zw5(h:zaV st/\zcr p st){k v:Int}{s:Str}(hk:0≤k/\k≤2)(h1:k≠1)(hs:s.length≤1000000000)(hz:(addF st (k,s,v)).2=0):zaV (addF st (k,s,v)).1/\zcr p (addF st (k,s,v)).1:=by
 have hn:zaB st k s=none:=by
  unfold addF at hz;cases hg:zaB st k s with
  | none=>rfl
  | some w=>simp[hg]at hz
 exact⟨h.1.add hk hs hn,h.2.add' h1⟩
theorem zwP(ht:∀s∈u.tags,s.length≤1000000000){i:Int}(h:zaV st/\zcr p st)(j:Nat)(hz:(zag addF st ((zeZ u i).take j)).2=0):zaV (zag addF st ((zeZ u i).take j)).1/\zcr p (zag addF st ((zeZ u i).take j)).1:=by
 refine zbS (f:=addF) (G:=fun _ st=>zaV st/\zcr p st) (w:=fun _=>0) _ (fun B a x hx h hz=>?_) 0 st h hz;obtain⟨s,hs,rfl⟩:=qaL.1 (qaS hx);exact zw5 h oB oB (ht s hs) hz
theorem zvL(st:List (Int×Str×Int))(u:En)(k:Nat):enF st (u,k)=if(addF st (2,u.name,(k:Int))).2=0 then zag addF (addF st (2,u.name,(k:Int))).1 (zeZ u k) else addF st (2,u.name,(k:Int)):=rfl
theorem enOk(ht:∀s∈u.tags,s.length≤1000000000)(hn:u.name.length≤1000000000){k:Nat}(h:zaV st/\zcr p st)(hz:(enF st (u,k)).2=0):zaV (enF st (u,k)).1/\zcr p (enF st (u,k)).1:=by
 rw[zvL]at hz⊢;split at hz
 ·rename_i h0;rw[oG h0]
  have:=zwP (p:=p) ht (i:=k) (zw5 h oB oB hn h0) (zeZ u k).length (by rw[qap];exact hz)
  rw[qap]at this;exact this
 ·rename_i h0;exact oI hz h0
theorem zy6(ht:∀u∈p.enums,u.name.length≤1000000000/\∀s∈u.tags,s.length≤1000000000)(k:Nat)(hz:(zag enF [] (p.enums.zipIdx.take k)).2=0):zaV (zag enF [] (p.enums.zipIdx.take k)).1/\zcr p (zag enF [] (p.enums.zipIdx.take k)).1:=by
 refine zbS (f:=enF) (G:=fun _ st=>zaV st/\zcr p st) (w:=fun _=>0) _ (fun B a x hx h hz=>?_) 0 [] ⟨zaV.nil,fun s i h=>by simp[zaB]at h⟩ hz;have hm:=(List.mem_zipIdx (qaS hx)).2.2;obtain⟨u,k⟩:=x;have hu:u∈p.enums:=by simp only at hm;rw[hm];exact qak _
 exact enOk (ht u hu).2 (ht u hu).1 h hz
theorem zzF(ht:∀u∈p.nodes,u.name.length≤1000000000)(h:zaV st/\zcr p st)(k:Nat)(hz:(zag (nodF p) st (p.nodes.zipIdx.take k)).2=0):zaV (zag (nodF p) st (p.nodes.zipIdx.take k)).1/\zcr p (zag (nodF p) st (p.nodes.zipIdx.take k)).1:=by
 refine zbS (f:=nodF p) (G:=fun _ st=>zaV st/\zcr p st) (w:=fun _=>0) _ (fun B a x hx h hz=>?_) 0 st h hz;have hm:=List.mem_zipIdx (qaS hx);obtain⟨u,k⟩:=x;have hu:u∈p.nodes:=by have:=hm.2.2;simp only at this;rw[this];exact qak _
 have hk:k<p.nodes.length:=by have:=hm.2.1;simp only at this;omega
 have hn:zaB a 1 u.name=none:=by
  unfold nodF zdb at hz;cases hg:zaB a 1 u.name with
  | none=>rfl
  | some w=>rw[hg]at hz;simp at hz
 exact⟨h.1.add oB (ht u hu) hn,h.2.add hk⟩
abbrev lk3 (p:Prog)(n q:Int):Blk:=.cells [.t (.sl 2 (p.enums.map enT)),.t (zb0 p.nodes),.i n,.i q,.mp 2]
theorem zhd.ret{P:Program}{n:Nat}{c:Code}{K KD:TK}{gf:FuncId}{cv:List SV}{env:_}{H:Heap}(h:K .ret env H):zhd P n c K gf cv KD .ret env H:=h
theorem zhd.normal{P:Program}{n:Nat}{c:Code}{K KD:TK}{gf:FuncId}{cv:List SV}{env:_}{H:Heap}(h:TD P n c env H K gf cv KD):zhd P n c K gf cv KD .normal env H:=h
attribute [local irreducible] TD zhd
theorem zmv (p:Prog) (hw:(T.ag (zbr p)).w≤100000000):Pure Tryz.prog 18 [.t (.ag (zbr p))] (.tup [.t (.ag [T.i (zcO p).1.1,T.i (zcO p).1.2]),.i (zcO p).2]):=by
 have l1:(T.sl 2 (p.enums.map enT)).w+(zb0 p.nodes).w≤(T.ag (zbr p)).w:=by rw[w_ag];simp only[zbr,qaf,qaD,qaG,qa9];omega
 have hnT:(zb0 p.nodes).w=(T.sl 8 (p.nodes.map nodT)).w:=rfl;have b1:=zaD enT 2 p.enums;have b2:=zaD nodT 8 p.nodes;have m1:(p.enums.map enT).length=p.enums.length:=qac _;have m2:(p.nodes.map nodT).length=p.nodes.length:=qac _;have hsh:=zeX p oA;have hz:zcO p=zcO p:=rfl
 conv at hz=>rhs;unfold zcO
 generalize zcO p=z at hz⊢;have hpc:zbr p=[.sl 2 (p.enums.map enT),zb0 p.nodes]:=rfl;rw[hpc]at hsh⊢;have hsn:=ziE (p:=p);generalize zaX p=sx at*;obtain⟨⟨s1,s2⟩,s3⟩:=sx;simp only at hz hsh hsn;refine Sound.znR zaf Tryz.func18 oD rfl rfl (gf:=46) (cv:=[.ref 0 0,.ref 1 0]) ?_;refine TD.seq ?_;repeat' (first|refine wu ?_|fail)
 refine zhd.normal ?_;refine TD.seq ?_;refine wk ?_;repeat' (first|refine wu ?_|exact wkc|refine wk2 ?_ ?_|refine wv hsh ?_|intro hc)
 ·refine zhd.ret ?_;rw[oG (by simpa using hc)]at hz;subst hz;exact wkr
 rw[oH (by simpa using hc)]at hz;have hz0:s3=0:=by simpa using hc
 have hsn:=hsn hz0;refine zhd.normal ?_;refine TD.defer (tz:=0) rfl rfl ?_;repeat' (first|refine wu ?_|exact wkc|refine wk2 ?_ ?_|intro hc)
 have hze:p.enums.zipIdx.length=p.enums.length:=oC
 have hzn:p.nodes.zipIdx.length=p.nodes.length:=oC
 have hle:∀u∈p.enums,u.name.length≤1000000000/\∀s∈u.tags,s.length≤1000000000:=fun u hu=>by
  have h1:=zAb (u:=u);have h2:=zaY (f:=enT) (sz:=2) hu;exact⟨oA,fun s hs=>by have:=h1.2.1 s hs;omega⟩
 have hlt':∀u∈p.enums,u.tags.length≤1000000000:=fun u hu=>by
  have h1:=zAb (u:=u);have h2:=zaY (f:=enT) (sz:=2) hu;omega
 have hln:∀u∈p.nodes,(nodT u).w≤100000000:=fun u hu=>by
  have h2:=zaY (f:=nodT) (sz:=8) hu;omega
 refine TR.zaz p.enums.length (fun k=>(zag enF [] (p.enums.zipIdx.take k)).2=0) (fun k=>[(1,.cp [.sl 2 (p.enums.map enT),zb0 p.nodes] 0),(2,.ref 0 0),(3,.ref 1 0),(6,.ref 3 0),(28,.t (.sl 2 (p.enums.map enT))),(29,.i (p.enums.map enT).length),(30,.i k)])
  (fun k=>[.cells [.i 0,.i 0],.cells [.i 0],zb8 (zag enF [] (p.enums.zipIdx.take k)).1,lk3 p (-1) (-1)]) rfl (fun k hlt ha=>?_) (fun ha=>?_)
 ·have hx:(p.enums.map enT)[k]?=some (.ag [.s p.enums[k].name,.sl 1 (p.enums[k].tags.map T.s)]):=zbc enT hlt;have g1:=zcI (f:=enF) (by rw[hze];exact hlt) ha;have g2:=zbB (f:=enF) (by rw[hze];exact hlt) ha;have hok:=zy6 (p:=p) hle k ha;have hzi:p.enums.zipIdx[k]'(by rw[hze];exact hlt)=(p.enums[k],k):=oC
  rw[hzi]at g1 g2;have hnm:=hle _ (qak hlt);have htl:=hlt' _ (qak hlt);generalize (zag enF [] (p.enums.zipIdx.take k)).1=st at*;generalize p.enums[k]=u at*;have hmt:(u.tags.map T.s).length=u.tags.length:=qac _;have hs:Sound Tryz.prog 47 [.ref 0 0,.t (.ag [.i 2,.s u.name]),.i k] [lkB p (-1) (-1),zb8 st] (Err (addF st (2,u.name,(k:Int))).2 (.tup []) (zcu (-1) (-1) (addF st (2,u.name,(k:Int))).2) [lkB p (-1) (-1),zb8 (addF st (2,u.name,(k:Int))).1]):=zhL p (-1) (-1) st hok.1 2 k oB u.name hnm.1;have hok1:=fun hz=>zw5 (p:=p) hok (k:=2) (v:=k) oB oB hnm.1 hz
  rw[zvL]at g1 g2;generalize addF st (2,u.name,(k:Int))=a1 at*;clear ha hle hlt' hln hsn;repeat' (first|refine wkt ?_|refine wka ?_|refine wk ?_|exact wkc|refine wk2 ?_ ?_|refine we32 hs ?_ ?_|intro hc)
  ·rw[oG hc]at g1 g2;have hok2:=hok1 hc;clear hs;have hzt:(zeZ u k).length=u.tags.length:=qac _
   refine TR.zaz u.tags.length (fun j=>(zag addF a1.1 ((zeZ u k).take j)).2=0) (fun j=>[(1,.cp [.sl 2 (p.enums.map enT),zb0 p.nodes] 0),(2,.ref 0 0),(3,.ref 1 0),(6,.ref 3 0),(28,.t (.sl 2 (p.enums.map enT))),(29,.i (p.enums.map enT).length),(30,.i k),(7,.i k),(42,.t (.sl 1 (u.tags.map T.s))),(43,.i (u.tags.map T.s).length),(44,.i j)])
    (fun j=>[.cells [.i 0,.i 0],.cells [.i 0],zb8 (zag addF a1.1 ((zeZ u k).take j)).1,lk3 p (-1) (-1)]) rfl (fun j hlj ha=>?_) (fun ha=>?_)
   ·have hx2:(u.tags.map T.s)[j]?=some (.s u.tags[j]):=zbc T.s hlj;have r1:=zcI (f:=addF) (by rw[hzt];exact hlj) ha;have r2:=zbB (f:=addF) (by rw[hzt];exact hlj) ha;have hok3:=zwP (p:=p) hnm.2 hok2 j ha;have hzi2:(zeZ u k)[j]'(by rw[hzt];exact hlj)=(0,u.tags[j],(k:Int)):=by simp[zeZ]
    rw[hzi2]at r1 r2;have hsm:=hnm.2 _ (qak hlj);generalize (zag addF a1.1 ((zeZ u k).take j)).1=st2 at*;generalize u.tags[j]=tg at*;have hs:Sound Tryz.prog 47 [.ref 0 0,.t (.ag [.i 0,.s tg]),.i k] [lkB p (-1) (-1),zb8 st2] (Err (addF st2 (0,tg,(k:Int))).2 (.tup []) (zcu (-1) (-1) (addF st2 (0,tg,(k:Int))).2) [lkB p (-1) (-1),zb8 (addF st2 (0,tg,(k:Int))).1]):=zhL p (-1) (-1) st2 hok3.1 0 k oB tg hsm;generalize addF st2 (0,tg,(k:Int))=a2 at*;clear hok1 hok3 hok2;repeat' (first|refine wkt ?_|refine wka ?_|refine wk ?_|exact wkc|refine wk2 ?_ ?_|refine we32 hs ?_ ?_|intro hc)
    ·refine zac.zaH hlj (by rw[r2];exact hc) ?_ (by rw[r2];rfl);repeat' (first|exact trivial|refine qav rfl ?_|fail)
    ·rw[r1 hc]at g1;exact zwbd
   rw[show u.tags.length=(zeZ u k).length from hzt.symm,qap]at ha;rw[show u.tags.length=(zeZ u k).length from hzt.symm,qap];clear hok1;refine wk ?_;refine ya ?_;refine zac.zaH hlt (by rw[g2];exact ha) ?_ (by rw[g2]);repeat' (first|exact trivial|refine qav rfl ?_|fail)
  ·rw[oH hc]at g1;exact zwbd
 have hok:=zy6 (p:=p) hle _ ha;rw[<-hze,qap]at ha hok;rw[<-hze,qap];rw[oH (by simp[ha])]at hz;generalize (zag enF [] p.enums.zipIdx).1=st0 at*;refine wk ?_;repeat' (first|refine wu ?_|exact wkc|refine wk2 ?_ ?_|intro hc)
 have hp:zgT p:=⟨oA,fun u hu=>by
  have h1:=hln u hu;have h2:=zq5 u;have h3:=zaD zak 3 u.ins;have h4:=zaD zak 3 u.outs;have d1:(zaw u.ins).w=(T.sl 3 (u.ins.map zak)).w:=rfl;have d2:(zaw u.outs).w=(T.sl 3 (u.outs.map zak)).w:=rfl;omega⟩
 have hnn:∀u∈p.nodes,u.name.length≤1000000000:=fun u hu=>by
  have h1:=hln u hu
  have:u.name.length≤(nodT u).w:=by
   rw[show nodT u= .ag (nodC u) from rfl,w_ag];exact zwef
  omega
 have hno:∀(a b:Int) (st:List (Int×Str×Int)) (k:Nat) (hk:k<p.nodes.length),zaV st->zcr p st->Sound Tryz.prog 48 [.ref 0 0,.i k] [lkB p a b,zb8 st] (Err (nodF p st (p.nodes[k],k)).2 (.tup []) (zcu k (zdb p st k p.nodes[k]).1 (nodF p st (p.nodes[k],k)).2) [lkB p k (-1),zb8 (nodF p st (p.nodes[k],k)).1]):=fun a b st k hk h1 h2=>
  zqH p hp a b st h1 h2 k hk p.nodes[k] (qad hk) (zxX (hsn _ (qak hk)) (hln _ (qak hk)))
 clear hle hlt' hsh hsn
 refine TR.zaz p.nodes.length (fun k=>(zag (nodF p) st0 (p.nodes.zipIdx.take k)).2=0) (fun k=>[(2,.ref 0 0),(3,.ref 1 0),(6,.ref 3 0),(56,.t (zb0 p.nodes)),(57,.i (p.nodes.map nodT).length),(58,.i k)])
  (fun k=>[.cells [.i 0,.i 0],.cells [.i 0],zb8 (zag (nodF p) st0 (p.nodes.zipIdx.take k)).1,lk3 p ((k:Int)-1) (-1)]) rfl (fun k hlt ha=>?_) (fun ha=>?_)
 ·have g1:=zcI (f:=nodF p) (by rw[hzn];exact hlt) ha;have g2:=zbB (f:=nodF p) (by rw[hzn];exact hlt) ha;have g3:=zmn p (by rw[hzn];exact hlt) ha;have hok2:=zzF (p:=p) hnn hok k ha;have hzi:p.nodes.zipIdx[k]'(by rw[hzn];exact hlt)=(p.nodes[k],k):=oC
  rw[hzi]at g1 g2 g3;generalize (zag (nodF p) st0 (p.nodes.zipIdx.take k)).1=st at*;have hs:=hno ((k:Int)-1) (-1) st k hlt hok2.1 hok2.2;generalize nodF p st (p.nodes[k],k)=a1 at*;generalize zdb p st k p.nodes[k]=a2 at*;clear hno hok2;repeat' (first|refine wkt ?_|refine wka ?_|refine wk ?_|exact wkc|refine wk2 ?_ ?_|refine we32 hs ?_ ?_|intro hc)
  ·refine zac.zaH hlt (by rw[g2];exact hc) ?_ (by rw[g2,show((k+1:Nat):Int)-1=k from oA];rfl);repeat' (first|exact trivial|refine qav rfl ?_|fail)
  ·rw[oH (by rw[g1 hc];exact hc),g1 hc,g3 hc]at hz;subst hz;repeat' (first|refine zac.panic ?_|refine wk ?_|fail)
   exact⟨_,zh1 _ _ _ _ _ _ _ rfl,fun H3 h=>by subst h;exact wkr⟩
 rw[<-hzn,qap]at ha;rw[oG ha]at hz;subst hz;refine wk ?_;refine ya ?_;exact⟨_,znn _ rfl,fun H3 h=>by subst h;exact wkr⟩
end
end Go.Proofs.YtdicfgideclbdaaGreatDoor
