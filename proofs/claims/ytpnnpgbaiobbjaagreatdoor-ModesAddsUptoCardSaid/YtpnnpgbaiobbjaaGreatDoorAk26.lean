import Derived.Test.YtpnnpgbaiobbjaaGreatDoorAk25
set_option linter.all false
namespace Go.Proofs.YtpnnpgbaiobbjaaGreatDoor
open Go Go.TL
attribute [local irreducible] TR TO Then zao RetK Sound zab Kf GG zaZ
theorem zhw(n q c:Int)(a b d:SV)(Hr:Heap)(hb:zad (Hr.length+2) Hr=true):
  zc2 Tryz.prog 105 [.ref 0 0,.ref 1 0] (.cells [a,b]:: .cells [d]::Hr) (some (zci n q c)) (fun H3=>H3= .cells [.i n,.i q]:: .cells [.i c]::Hr):=by
 refine zc2.of (tab:=tab) Tryz.func105 (by kernel_rfl) rfl rfl rfl rfl ?_
 repeat' (first|refine wu ?_|exact wkc|intro hc|refine wk2 ?_ ?_|(apply TO.zkA zag;(iterate 4 exact rfl))|fail)
 refine Then.normal ?_
 repeat' (first|refine wkt ?_|fail)
 refine TR.zm2 (envF:=?envF) (HF:=.cells [.i n,.i q]:: .cells [.i c]::Hr) [(.cp [T.i n,T.i q,T.i c] 0,false),(.t (.ag [T.i n,T.i q]),false),(.cp [T.i n,T.i q,T.i c] 2,false),(.i c,false),(.any,true),(.any,true)] [.cells [a,b]:: .cells [d]::Hr,.cells [.i n,.i q]:: .cells [d]::Hr,.cells [.i n,.i q]:: .cells [.i c]::Hr] hmix ?hB ?h0 ?hp ?hF ?hE ?hK
 case hB=>(dsimp only[List.map];decide +kernel)
 case h0=>exact rfl
 case hF=>exact rfl
 case hE=>exact rfl
 case hp=>repeat' (first|refine wu ?_|exact trivial|exact qaf rfl rfl|refine qaf (fun H env=>?_) ?_|refine qaf (fun env=>?_) ?_|fail)
 repeat' (first|refine wu ?_|exact wkc|intro hc|refine wk2 ?_ ?_|fail)
 have ht:(Blk.cells [.i n,.i q]::Blk.cells [.i c]::Hr).take (Blk.cells [a,b]::Blk.cells [d]::Hr).length=Blk.cells [.i n,.i q]::Blk.cells [.i c]::Hr:=by simp
 refine⟨qag _,?_,ht⟩
 show zad _ (List.take _ (Blk.cells [.i n,.i q]::Blk.cells [.i c]::Hr))=true
 rw[ht]
 exact hb
theorem zmf(H:Heap)(hb:zad H.length H=true):
  zc2 Tryz.prog 105 [.ref 0 0,.ref 1 0] H none (fun H3=>H3=H):=by
 refine zc2.of (tab:=tab) Tryz.func105 (by kernel_rfl) rfl rfl rfl rfl ?_
 repeat' (first|refine wu ?_|exact wkc|intro hc|refine wk2 ?_ ?_|(apply TO.ziY zag;(iterate 4 exact rfl))|fail)
 refine Then.normal ?_
 repeat' (first|refine wu ?_|exact wkc|intro hc|refine wk2 ?_ ?_|fail)
 exact⟨qag _,by rw[qaX (qag _)];exact hb,qaX (qag _)⟩
theorem Hands.two{G:Heap}{i j:Nat}{b c:Blk}(hij:Nat.beq i j=false)(h1:G[i]?=some (b.ren (names [i,j] G.length)))(h2:G[j]?=some (c.ren (names [i,j] G.length)))(hb:b.under 2=true)(hc:c.under 2=true):Hands G [i,j] [b,c] where
 nodup:=by
  have:i≠j:=fun e=>by rw[e]at hij;simp at hij
  simp[this]
 lt:=fun x hx=>by
  simp at hx
  rcases hx with rfl|rfl
  ·exact(qab.1 h1).1
  ·exact(qab.1 h2).1
 len:=rfl
 H:=fun a x y ha hy=>by
  match a with
  | 0=>simp at ha hy;subst ha hy;exact h1
  | 1=>simp at ha hy;subst ha hy;exact h2
  | a+2=>simp at ha
 under:=fun a y hy=>by
  match a with
  | 0=>simp at hy;subst hy;exact hb
  | 1=>simp at hy;subst hy;exact hc
  | a+2=>simp at hy
theorem we32{G Q1 Q2:Prop}{f:FuncId}{cargs:List SV}{v pv:SV}{c:Int}{Hc H1:Heap}(hs:Sound Tryz.prog f cargs Hc (Err c v pv H1))(k1:Q1)(k2:Q2)(h:Sound Tryz.prog f cargs Hc (Err c v pv H1)->Hold Q1->Hold Q2->G:=by
  intro hs k1 k2
  (apply TO.zma [3,2] hs;(iterate 3 exact rfl);exact zqb;exact rfl;exact Go.Proofs.YtpnnpgbaiobbjaaGreatDoor.Hands.two rfl rfl rfl rfl rfl;(iterate 4 exact rfl);exact k1.p;exact k2.p)):G:=h hs ⟨k1⟩ ⟨k2⟩
theorem zvZ{u:En}:u.name.length≤(enT u).w/\(∀s∈u.tags,s.length≤(enT u).w)/\u.tags.length≤(enT u).w:=by
 rw[enT,w_ag];simp only[qaj,qay,qao,qaI,w_s]
 refine⟨by omega,fun s hs=>?_,?_⟩
 ·have:=zav (f:=T.s) (sz:=1) hs;rw[w_s]at this;omega
 ·have:=zai T.s 1 u.tags;omega
theorem zt7{p:Prog}{st:List (Int×Str×Int)}(h:zaS st/\zch p st){k v:Int}{s:Str}(hk:0≤k/\k≤2)(h1:k≠1)(hs:s.length≤1000000000)(hz:(addF st (k,s,v)).2=0):zaS (addF st (k,s,v)).1/\zch p (addF st (k,s,v)).1:=by
 have hn:zaK st k s=none:=by
  unfold addF at hz
  cases hg:zaK st k s with
  | none=>rfl
  | some w=>simp[hg]at hz
 exact⟨h.1.add hk hs hn,h.2.add' h1⟩
theorem ztZ{p:Prog}{u:En}(ht:∀s∈u.tags,s.length≤1000000000){i:Int}{st:List (Int×Str×Int)}(h:zaS st/\zch p st)(j:Nat)(hz:(zam addF st ((zfV u i).take j)).2=0):zaS (zam addF st ((zfV u i).take j)).1/\zch p (zam addF st ((zfV u i).take j)).1:=by
 refine zbK (f:=addF) (G:=fun _ st=>zaS st/\zch p st) (w:=fun _=>0) _ (fun B a x hx h hz=>?_) 0 st h hz
 obtain⟨s,hs,rfl⟩:=qa4.1 (qaR hx)
 exact zt7 h (by decide) (by decide) (ht s hs) hz
theorem ztB(st:List (Int×Str×Int))(u:En)(k:Nat):enF st (u,k)=if(addF st (2,u.name,(k:Int))).2=0 then zam addF (addF st (2,u.name,(k:Int))).1 (zfV u k) else addF st (2,u.name,(k:Int)):=rfl
theorem enOk{p:Prog}{u:En}(ht:∀s∈u.tags,s.length≤1000000000)(hn:u.name.length≤1000000000){k:Nat}{st:List (Int×Str×Int)}(h:zaS st/\zch p st)(hz:(enF st (u,k)).2=0):zaS (enF st (u,k)).1/\zch p (enF st (u,k)).1:=by
 rw[ztB]at hz⊢
 split at hz
 ·rename_i h0
  rw[if_pos h0]
  have:=ztZ (p:=p) ht (i:=k) (zt7 h (by decide) (by decide) hn h0) (zfV u k).length (by rw[qah];exact hz)
  rw[qah]at this
  exact this
 ·rename_i h0;exact absurd hz h0
theorem zvv{p:Prog}(ht:∀u∈p.enums,u.name.length≤1000000000/\∀s∈u.tags,s.length≤1000000000)(k:Nat)(hz:(zam enF [] (p.enums.zipIdx.take k)).2=0):zaS (zam enF [] (p.enums.zipIdx.take k)).1/\zch p (zam enF [] (p.enums.zipIdx.take k)).1:=by
 refine zbK (f:=enF) (G:=fun _ st=>zaS st/\zch p st) (w:=fun _=>0) _ (fun B a x hx h hz=>?_) 0 [] ⟨zaS.nil,fun s i h=>by simp[zaK]at h⟩ hz
 have hm:=(List.mem_zipIdx (qaR hx)).2.2
 obtain⟨u,k⟩:=x
 have hu:u∈p.enums:=by simp only at hm;rw[hm];exact qad _
 exact enOk (ht u hu).2 (ht u hu).1 h hz
theorem zvO{p:Prog}(ht:∀u∈p.nodes,u.name.length≤1000000000){st:List (Int×Str×Int)}(h:zaS st/\zch p st)(k:Nat)(hz:(zam (nodF p) st (p.nodes.zipIdx.take k)).2=0):zaS (zam (nodF p) st (p.nodes.zipIdx.take k)).1/\zch p (zam (nodF p) st (p.nodes.zipIdx.take k)).1:=by
 refine zbK (f:=nodF p) (G:=fun _ st=>zaS st/\zch p st) (w:=fun _=>0) _ (fun B a x hx h hz=>?_) 0 st h hz
 have hm:=List.mem_zipIdx (qaR hx)
 obtain⟨u,k⟩:=x
 have hu:u∈p.nodes:=by have:=hm.2.2;simp only at this;rw[this];exact qad _
 have hk:k<p.nodes.length:=by have:=hm.2.1;simp only at this;omega
 have hn:zaK a 1 u.name=none:=by
  unfold nodF zcI at hz
  cases hg:zaK a 1 u.name with
  | none=>rfl
  | some w=>rw[hg]at hz;simp at hz
 exact⟨h.1.add (by decide) (ht u hu) hn,h.2.add hk⟩
abbrev lk3 (p:Prog)(n q:Int):Blk:=.cells [.t (.sl 2 (p.enums.map enT)),.t (zaC p.nodes),.i n,.i q,.mp 2]
theorem zjD.ret{P:Program}{n:Nat}{c:Code}{K KD:TK}{gf:FuncId}{cv:List SV}{env:_}{H:Heap}(h:K .ret env H):zjD P n c K gf cv KD .ret env H:=h
theorem zjD.normal{P:Program}{n:Nat}{c:Code}{K KD:TK}{gf:FuncId}{cv:List SV}{env:_}{H:Heap}(h:TD P n c env H K gf cv KD):zjD P n c K gf cv KD .normal env H:=h
attribute [local irreducible] TD zjD
set_option maxHeartbeats 2000000 in
theorem zlG (p:Prog) (hw:(T.ag (zax p)).w≤100000000):Pure Tryz.prog 55 [.t (.ag (zax p))] (.tup [.t (.ag [T.i (zb3 p).1.1,T.i (zb3 p).1.2]),.i (zb3 p).2]):=by
 have l1:(T.sl 2 (p.enums.map enT)).w+(zaC p.nodes).w≤(T.ag (zax p)).w:=by rw[w_ag];simp only[zax,qaj,qay,qao,qaI];omega
 have hnT:(zaC p.nodes).w=(T.sl 8 (p.nodes.map nodT)).w:=rfl
 have b1:=zai enT 2 p.enums
 have b2:=zai nodT 8 p.nodes
 have m1:(p.enums.map enT).length=p.enums.length:=qaa _
 have m2:(p.nodes.map nodT).length=p.nodes.length:=qaa _
 have hsh:=zlI p (by omega)
 have hz:zb3 p=zb3 p:=rfl
 conv at hz=>rhs;unfold zb3
 generalize zb3 p=z at hz⊢
 have hpc:zax p=[.sl 2 (p.enums.map enT),zaC p.nodes]:=rfl
 rw[hpc]at hsh⊢
 have hsn:=zih (p:=p)
 generalize zba p=sx at*
 obtain⟨⟨s1,s2⟩,s3⟩:=sx
 simp only at hz hsh hsn
 refine Sound.zrj zag Tryz.func55 (by kernel_rfl) rfl rfl (gf:=105) (cv:=[.ref 0 0,.ref 1 0]) ?_
 refine TD.seq ?_
 repeat' (first|refine wu ?_|fail)
 refine zjD.normal ?_
 refine TD.seq ?_
 refine wk ?_
 repeat' (first|refine wu ?_|exact wkc|intro hc|refine wk2 ?_ ?_|refine wv hsh ?_|fail)
 ·refine zjD.ret ?_
  rw[if_pos (by simpa using hc)]at hz
  subst hz
  exact wkr
 rw[if_neg (by simpa using hc)]at hz
 have hz0:s3=0:=by simpa using hc
 have hsn:=hsn hz0
 refine zjD.normal ?_
 refine TD.defer (tz:=0) rfl rfl ?_
 repeat' (first|refine wu ?_|exact wkc|intro hc|refine wk2 ?_ ?_|fail)
 have hze:p.enums.zipIdx.length=p.enums.length:=by simp
 have hzn:p.nodes.zipIdx.length=p.nodes.length:=by simp
 have hle:∀u∈p.enums,u.name.length≤1000000000/\∀s∈u.tags,s.length≤1000000000:=fun u hu=>by
  have h1:=zvZ (u:=u)
  have h2:=zav (f:=enT) (sz:=2) hu
  exact⟨by omega,fun s hs=>by have:=h1.2.1 s hs;omega⟩
 have hlt':∀u∈p.enums,u.tags.length≤1000000000:=fun u hu=>by
  have h1:=zvZ (u:=u)
  have h2:=zav (f:=enT) (sz:=2) hu
  omega
 have hln:∀u∈p.nodes,(nodT u).w≤100000000:=fun u hu=>by
  have h2:=zav (f:=nodT) (sz:=8) hu
  omega
 refine TR.zal p.enums.length (fun k=>(zam enF [] (p.enums.zipIdx.take k)).2=0) (fun k=>[(1,.cp [.sl 2 (p.enums.map enT),zaC p.nodes] 0),(2,.ref 0 0),(3,.ref 1 0),(6,.ref 3 0),(28,.t (.sl 2 (p.enums.map enT))),(29,.i (p.enums.map enT).length),(30,.i k)])
  (fun k=>[.cells [.i 0,.i 0],.cells [.i 0],zbS (zam enF [] (p.enums.zipIdx.take k)).1,lk3 p (-1) (-1)]) rfl (fun k hlt ha=>?_) (fun ha=>?_)
 ·have hx:(p.enums.map enT)[k]?=some (.ag [.s p.enums[k].name,.sl 1 (p.enums[k].tags.map T.s)]):=zar enT hlt
  have g1:=zcp (f:=enF) (by rw[hze];exact hlt) ha
  have g2:=zbe (f:=enF) (by rw[hze];exact hlt) ha
  have hok:=zvv (p:=p) hle k ha
  have hzi:p.enums.zipIdx[k]'(by rw[hze];exact hlt)=(p.enums[k],k):=by simp
  rw[hzi]at g1 g2
  have hnm:=hle _ (qad hlt)
  have htl:=hlt' _ (qad hlt)
  generalize (zam enF [] (p.enums.zipIdx.take k)).1=st at*
  generalize p.enums[k]=u at*
  have hmt:(u.tags.map T.s).length=u.tags.length:=qaa _
  have hs:Sound Tryz.prog 106 [.ref 0 0,.t (.ag [.i 2,.s u.name]),.i k] [lkB p (-1) (-1),zbS st] (Err (addF st (2,u.name,(k:Int))).2 (.tup []) (zci (-1) (-1) (addF st (2,u.name,(k:Int))).2) [lkB p (-1) (-1),zbS (addF st (2,u.name,(k:Int))).1]):=zhl p (-1) (-1) st hok.1 2 k (by decide) u.name hnm.1
  have hok1:=fun hz=>zt7 (p:=p) hok (k:=2) (v:=k) (by decide) (by decide) hnm.1 hz
  rw[ztB]at g1 g2
  generalize addF st (2,u.name,(k:Int))=a1 at*
  clear ha hle hlt' hln hsn
  repeat' (first|refine wkt ?_|refine wka ?_|refine wk ?_|exact wkc|intro hc|refine wk2 ?_ ?_|refine we32 hs ?_ ?_|fail)
  ·rw[if_pos hc]at g1 g2
   have hok2:=hok1 hc
   clear hs
   have hzt:(zfV u k).length=u.tags.length:=qaa _
   refine TR.zal u.tags.length (fun j=>(zam addF a1.1 ((zfV u k).take j)).2=0) (fun j=>[(1,.cp [.sl 2 (p.enums.map enT),zaC p.nodes] 0),(2,.ref 0 0),(3,.ref 1 0),(6,.ref 3 0),(28,.t (.sl 2 (p.enums.map enT))),(29,.i (p.enums.map enT).length),(30,.i k),(7,.i k),(42,.t (.sl 1 (u.tags.map T.s))),(43,.i (u.tags.map T.s).length),(44,.i j)])
    (fun j=>[.cells [.i 0,.i 0],.cells [.i 0],zbS (zam addF a1.1 ((zfV u k).take j)).1,lk3 p (-1) (-1)]) rfl (fun j hlj ha=>?_) (fun ha=>?_)
   ·have hx2:(u.tags.map T.s)[j]?=some (.s u.tags[j]):=zar T.s hlj
    have r1:=zcp (f:=addF) (by rw[hzt];exact hlj) ha
    have r2:=zbe (f:=addF) (by rw[hzt];exact hlj) ha
    have hok3:=ztZ (p:=p) hnm.2 hok2 j ha
    have hzi2:(zfV u k)[j]'(by rw[hzt];exact hlj)=(0,u.tags[j],(k:Int)):=by simp[zfV]
    rw[hzi2]at r1 r2
    have hsm:=hnm.2 _ (qad hlj)
    generalize (zam addF a1.1 ((zfV u k).take j)).1=st2 at*
    generalize u.tags[j]=tg at*
    have hs:Sound Tryz.prog 106 [.ref 0 0,.t (.ag [.i 0,.s tg]),.i k] [lkB p (-1) (-1),zbS st2] (Err (addF st2 (0,tg,(k:Int))).2 (.tup []) (zci (-1) (-1) (addF st2 (0,tg,(k:Int))).2) [lkB p (-1) (-1),zbS (addF st2 (0,tg,(k:Int))).1]):=zhl p (-1) (-1) st2 hok3.1 0 k (by decide) tg hsm
    generalize addF st2 (0,tg,(k:Int))=a2 at*
    clear hok1 hok3 hok2
    repeat' (first|refine wkt ?_|refine wka ?_|refine wk ?_|exact wkc|intro hc|refine wk2 ?_ ?_|refine we32 hs ?_ ?_|fail)
    ·refine zab.zat hlj (by rw[r2];exact hc) ?_ (by rw[r2];rfl)
     repeat' (first|exact trivial|refine qaf rfl ?_|fail)
    ·rw[r1 hc]at g1
     exact zwbt
   rw[show u.tags.length=(zfV u k).length from hzt.symm,qah]at ha
   rw[show u.tags.length=(zfV u k).length from hzt.symm,qah]
   clear hok1
   refine wk ?_
   repeat' (first|refine wu ?_|exact wkc|intro hc|refine wk2 ?_ ?_|fail)
   refine zab.zat hlt (by rw[g2];exact ha) ?_ (by rw[g2])
   repeat' (first|exact trivial|refine qaf rfl ?_|fail)
  ·rw[if_neg hc]at g1
   exact zwbt
 have hok:=zvv (p:=p) hle _ ha
 rw[<-hze,qah]at ha hok
 rw[<-hze,qah]
 rw[if_neg (by simp[ha])]at hz
 generalize (zam enF [] p.enums.zipIdx).1=st0 at*
 refine wk ?_
 repeat' (first|refine wu ?_|exact wkc|intro hc|refine wk2 ?_ ?_|fail)
 have hp:zgr p:=⟨by omega,fun u hu=>by
  have h1:=hln u hu
  have h2:=zdJ u
  have h3:=zai zaa 3 u.ins
  have h4:=zai zaa 3 u.outs
  have d1:(zac u.ins).w=(T.sl 3 (u.ins.map zaa)).w:=rfl
  have d2:(zac u.outs).w=(T.sl 3 (u.outs.map zaa)).w:=rfl
  omega⟩
 have hnn:∀u∈p.nodes,u.name.length≤1000000000:=fun u hu=>by
  have h1:=hln u hu
  have:u.name.length≤(nodT u).w:=by
   rw[show nodT u= .ag (nodC u) from rfl,w_ag]
   exact zwer
  omega
 have hno:∀(a b:Int) (st:List (Int×Str×Int)) (k:Nat) (hk:k<p.nodes.length),zaS st->zch p st->Sound Tryz.prog 107 [.ref 0 0,.i k] [lkB p a b,zbS st] (Err (nodF p st (p.nodes[k],k)).2 (.tup []) (zci k (zcI p st k p.nodes[k]).1 (nodF p st (p.nodes[k],k)).2) [lkB p k (-1),zbS (nodF p st (p.nodes[k],k)).1]):=fun a b st k hk h1 h2=>
  zpc p hp a b st h1 h2 k hk p.nodes[k] (qac hk) (zuS (hsn _ (qad hk)) (hln _ (qad hk)))
 clear hle hlt' hsh hsn
 refine TR.zal p.nodes.length (fun k=>(zam (nodF p) st0 (p.nodes.zipIdx.take k)).2=0) (fun k=>[(2,.ref 0 0),(3,.ref 1 0),(6,.ref 3 0),(56,.t (zaC p.nodes)),(57,.i (p.nodes.map nodT).length),(58,.i k)])
  (fun k=>[.cells [.i 0,.i 0],.cells [.i 0],zbS (zam (nodF p) st0 (p.nodes.zipIdx.take k)).1,lk3 p ((k:Int)-1) (-1)]) rfl (fun k hlt ha=>?_) (fun ha=>?_)
 ·have g1:=zcp (f:=nodF p) (by rw[hzn];exact hlt) ha
  have g2:=zbe (f:=nodF p) (by rw[hzn];exact hlt) ha
  have g3:=zlA p (by rw[hzn];exact hlt) ha
  have hok2:=zvO (p:=p) hnn hok k ha
  have hzi:p.nodes.zipIdx[k]'(by rw[hzn];exact hlt)=(p.nodes[k],k):=by simp
  rw[hzi]at g1 g2 g3
  generalize (zam (nodF p) st0 (p.nodes.zipIdx.take k)).1=st at*
  have hs:=hno ((k:Int)-1) (-1) st k hlt hok2.1 hok2.2
  generalize nodF p st (p.nodes[k],k)=a1 at*
  generalize zcI p st k p.nodes[k]=a2 at*
  clear hno hok2
  repeat' (first|refine wkt ?_|refine wka ?_|refine wk ?_|exact wkc|intro hc|refine wk2 ?_ ?_|refine we32 hs ?_ ?_|fail)
  ·refine zab.zat hlt (by rw[g2];exact hc) ?_ (by rw[g2,show((k+1:Nat):Int)-1=k from by omega];rfl)
   repeat' (first|exact trivial|refine qaf rfl ?_|fail)
  ·rw[if_neg (by rw[g1 hc];exact hc),g1 hc,g3 hc]at hz
   subst hz
   repeat' (first|refine zab.panic ?_|refine wk ?_|fail)
   exact⟨_,zhw _ _ _ _ _ _ _ rfl,fun H3 h=>by subst h;exact wkr⟩
 rw[<-hzn,qah]at ha
 rw[if_pos ha]at hz
 subst hz
 refine wk ?_
 repeat' (first|refine wu ?_|exact wkc|intro hc|refine wk2 ?_ ?_|fail)
 exact⟨_,zmf _ rfl,fun H3 h=>by subst h;exact wkr⟩
end Go.Proofs.YtpnnpgbaiobbjaaGreatDoor
namespace Go.Proofs.YtpnnpgbaiobbjaaGreatDoor
open Go Go.TL
attribute [local irreducible] TR TO Then zao RetK Sound zab Kf GG zaZ
theorem zlc(w:Plc)(l:List Decl)(hl:l.length+w.env.length≤3000000000):
  Pure Tryz.prog 173 [.t (plcT w),.t (zac l)] (.t (plcT ⟨w.p,w.node,l++w.env⟩)):=by
 obtain⟨p,nd,env⟩:=w
 have m1:(l.map zaa).length=l.length:=qaa _
 have m2:(env.map zaa).length=env.length:=qaa _
 unfold plcT plcC at*
 simp only at*
 have hc:(((l.map zaa).length:Int)+((env.map zaa).length:Int))=((l.length+env.length:Nat):Int):=by rw[m1,m2];simp
 have hz:zaX zD (l.length+env.length)=mixC [] zD (l.length+env.length):=by simp[mixC]
 have hsp1:splice (zaX zD (l.length+env.length)) 0 ((((l.map zaa).map T.cells).flatten).map .t)=mixC (zaL l) zD env.length:=by
  have e:=zd0 [] (zaL l) zD (l.length+env.length) l.length 0 (by omega) rfl (zbd _)
  rw[hz];refine e.trans ?_
  rw[qa1];congr 1;omega
 have hsp2:splice (mixC (zaL l) zD env.length) (0+(l.map zaa).length*3) ((((env.map zaa).map T.cells).flatten).map .t)=(zaL (l++env)).map .t:=by
  have e:=zd0 (zaL l) (zaL env) zD env.length env.length (0+(l.map zaa).length*3) (by omega) (by rw[zbd,m1];omega) (zbd _)
  refine e.trans ?_
  rw[qbH,zhY,zfo]
 have hsz:∀e∈(l++env).map zaa,e.cells.length=3:=fun e he=>by
  obtain⟨d,_,rfl⟩:=qa4.1 he;exact zmm d
 have hcat:(l++env).length=l.length+env.length:=qae
 have m3:((l++env).map zaa).length=l.length+env.length:=by rw[qaa,hcat]
 by_cases henv:env.length=0
 ·have:env=[]:=qaP henv
  subst this
  have hsp3:splice (zaX zD (l.map zaa).length) 0 ((((l.map zaa).map T.cells).flatten).map .t)=(zaL l).map .t:=by
   have e:=zd0 [] (zaL l) zD l.length l.length 0 (by omega) rfl (zbd _)
   rw[m1,show zaX zD l.length=mixC [] zD l.length from by simp[mixC]]
   refine e.trans ?_
   rw[qa1,qbH,zhY]
  rw[qaQ]at hsz⊢
  clear hsp1 hsp2 hc
  refine so Tryz.func173 ?_
  repeat' (first|refine wk ?_|exact wkc|intro hc|refine wk2 ?_ ?_|(apply TO.makeSlice (c:=(l.map zaa).length) zag;(iterate 6 exact rfl);(exact Eq.trans (b:=some (.i (((l.map zaa).length:Int)+0))) rfl (by rw[Int.add_zero]));(rw[m1];simp at hl;omega);exact rfl)|(apply TO.znd (len:=(l.map zaa).length) zag;(iterate 7 exact rfl))|(apply TO.zpX zag;(iterate 10 exact rfl);refine TO.zjU 5 3 2 (l.map zaa).length (es:=l.map zaa) rfl rfl (by simp[zbd]) (fun j c hj=>hj) rfl hsz rfl rfl ?_)|(apply TO.zmi (H':=[.cells [.t (.sl 2 (p.enums.map enT)),.t (zaC p.nodes),.t (T.n nd),.t (zac [])],.cells [.t (.v (.slice none 0 0)),.t (.v (.slice none 0 0)),.i 0,.t (.v (.slice none 0 0))],.cells ((zaL l).map .t)]) zag;(iterate 10 exact rfl);exact qag _;(rw[zb1];show 0+(l.map zaa).length*3≤(l.map zaa).length*3;omega);(exact congrArg (fun c=>[Blk.cells [.t (.sl 2 (p.enums.map enT)),.t (zaC p.nodes),.t (T.n nd),.t (zac [])],.cells [.t (.v (.slice none 0 0)),.t (.v (.slice none 0 0)),.i 0,.t (.v (.slice none 0 0))],.cells c]) hsp3))|fail)
  exact wkr
 refine so Tryz.func173 ?_
 repeat' (first|refine wk ?_|exact wkc|intro hc|refine wk2 ?_ ?_|(apply TO.makeSlice (c:=l.length+env.length) zag;(iterate 6 exact rfl);(exact Eq.trans (b:=some (.i (((l.map zaa).length:Int)+((env.map zaa).length:Int)))) rfl (by rw[hc]));omega;exact rfl)|(apply TO.zmi (H':=[.cells [.t (.sl 2 (p.enums.map enT)),.t (zaC p.nodes),.t (T.n nd),.t (zac env)],.cells [.t (.v (.slice none 0 0)),.t (.v (.slice none 0 0)),.i 0,.t (.v (.slice none 0 0))],.cells (mixC (zaL l) zD env.length)]) zag;(iterate 10 exact rfl);(rw[m1];omega);(rw[zb1,m1];show 0+l.length*3≤(l.length+env.length)*3;omega);(exact congrArg (fun c=>[Blk.cells [.t (.sl 2 (p.enums.map enT)),.t (zaC p.nodes),.t (T.n nd),.t (zac env)],.cells [.t (.v (.slice none 0 0)),.t (.v (.slice none 0 0)),.i 0,.t (.v (.slice none 0 0))],.cells c]) hsp1))|(apply TO.zju (b:=(l.map zaa).length) zag;(iterate 7 exact rfl);(rw[m1];omega))|(apply TO.zmi (H':=[.cells [.t (.sl 2 (p.enums.map enT)),.t (zaC p.nodes),.t (T.n nd),.t (zac env)],.cells [.t (.v (.slice none 0 0)),.t (.v (.slice none 0 0)),.i 0,.t (.v (.slice none 0 0))],.cells ((zaL (l++env)).map .t)]) zag;(iterate 10 exact rfl);(rw[m1,m2];omega);(rw[zn9,zbd,m1,m2];show 0+l.length*3+env.length*3≤l.length*3+env.length*3;omega);(exact congrArg (fun c=>[Blk.cells [.t (.sl 2 (p.enums.map enT)),.t (zaC p.nodes),.t (T.n nd),.t (zac env)],.cells [.t (.v (.slice none 0 0)),.t (.v (.slice none 0 0)),.i 0,.t (.v (.slice none 0 0))],.cells c]) hsp2);refine TO.zjU 5 3 2 (l.length+env.length) (es:=(l++env).map zaa) rfl rfl (by rw[m3,qaa,zbd,hcat];exact qag _) (fun j c hj=>hj) m3.symm hsz rfl rfl ?_)|fail)
 exact wkr
def nI(k:Nat):I64:=if h:(k:Int)≤9223372036854775807 then⟨k,⟨by omega,h⟩⟩ else⟨0,by decide⟩
def stTy(w:Plc)(F:Plc->Auto->Int)(s:Sta):Int:=
 orE (zaf (fun t:Tran=>zcC w t.cond) s.unl) (orE (zaf (eqnT ⟨w.p,w.node,s.locals++w.env⟩) s.eqs) (orE (zaf (F ⟨w.p,w.node,s.locals++w.env⟩) s.autos) (zaf (fun t:Tran=>zcC ⟨w.p,w.node,s.locals++w.env⟩ t.cond) s.unt)))
def zdr:Nat->Plc->Auto->Int
 | 0,_,_=>0
 | k+1,w,a=>zaf (stTy w (zdr k)) a.states
def zrx(w:Plc)(n:Nod):Int:=orE (zaf (zdr 3 w) n.autos) (orE (zaf (zcC w) n.assume) (zaf (zcC w) n.ensure))
def zrg(w:Plc)(n:Nod):Int×Int:=if zaf (eqnT w) n.eqs≠0 then zcS (eqnT w) n.eqs else(-1,zrx w n)
def nodG(p:Prog)(x:Nod×Nat):Int×Int:=zrg ⟨p,nI x.2,zaB x.1⟩ x.1
def zfY(p:Prog):List (Nod×Nat)->(Int×Int)×Int
 | []=>((0,0),0)
 | x::l=>if(nodG p x).2=0 then zfY p l else(((x.2:Int),(nodG p x).1),(nodG p x).2)
def zaN(p:Prog):(Int×Int)×Int:=if(zb3 p).2≠0 then zb3 p else zfY p p.nodes.zipIdx
theorem zlQ(p:Prog):∀ {l:List (Nod×Nat)} {k:Nat} (hk:k<l.length),zaf (fun x=>(nodG p x).2) (l.take k)=0->(nodG p l[k]).2≠0->zfY p l=(((l[k].2:Int),(nodG p l[k]).1),(nodG p l[k]).2)
 | x::l,0,hk,h,hn=>by
   simp only[qb5]at hn⊢
   rw[zfY,if_neg hn]
 | x::l,k+1,hk,h,hn=>by
   rw[qaM,zaf]at h
   by_cases h0:(nodG p x).2=0
   ·rw[if_pos h0]at h
    simp only[List.getElem_cons_succ]at hn⊢
    rw[zfY,if_pos h0,zlQ p (by simpa using hk) h hn]
   ·rw[if_neg h0]at h;exact absurd h h0
theorem ziq(p:Prog):∀ {l:List (Nod×Nat)},zaf (fun x=>(nodG p x).2) l=0->zfY p l=((0,0),0)
 | [],_=>rfl
 | x::l,h=>by
   rw[zaf]at h
   by_cases h0:(nodG p x).2=0
   ·rw[if_pos h0]at h
    rw[zfY,if_pos h0,ziq p h]
   ·rw[if_neg h0]at h;exact absurd h h0
def tyA:Nat->Auto->Prop
 | 0,_=>True
 | k+1,a=>∀s∈a.states,(∀u∈s.eqs,u.left.length≤1000000000/\ExT u.right)/\(∀t∈s.unl,ExT t.cond)/\(∀t∈s.unt,ExT t.cond)/\∀b∈s.autos,tyA k b
theorem zje{es:List En}{e:Ex}(h:zbY es e=0)(hw:(exT e).w≤1000000000):ExT e:=⟨by have:=zdI e;omega,ziX h⟩
theorem zl6{es:List En}:∀(k:Nat) (a:Auto),(zae a).w≤1000000000->zcu es k a=0->zeY k a/\tyA k a
 | 0,a,hw,h=>by simp[zcu]at h
 | k+1,a,hw,h=>by
   unfold zcu at h
   have hst:=zaj (zaz (zaz h).2).2
   have hwa:=zbJ a
   have key:∀s∈a.states,(∀b∈s.autos,zeY k b/\tyA k b)/\(∀u∈s.eqs,u.left.length≤1000000000/\ExT u.right)/\(∀t∈s.unl,ExT t.cond)/\(∀t∈s.unt,ExT t.cond):=by
    intro s hs
    have h1:=hst s hs
    have hws:=zav (f:=staT) (sz:=6) hs
    have hw2:=zdK s
    unfold stE at h1
    have h3:=(zaz (zaz (zaz h1).2).2).2
    have he:=zaj (zaz h3).1
    have h4:=(zaz h3).2
    have ha:=zaj (zaz h4).1
    have h5:=(zaz h4).2
    have hu:=zaj (zaz h5).1
    have hv:=zaj (zaz h5).2
    refine⟨fun b hb=>zl6 k b (by have:=zav (f:=zae) (sz:=1) hb;omega) (ha b hb),fun u hu'=>⟨?_,zje (zjM (he u hu')) (by have:=zg5 u;have:=zav (f:=equT) (sz:=7) hu';omega)⟩,fun t ht=>zje (zhg (hu t ht)) (by have:=zfW t;have:=zav (f:=zah) (sz:=8) ht;omega),fun t ht=>zje (zhg (hv t ht)) (by have:=zfW t;have:=zav (f:=zah) (sz:=8) ht;omega)⟩
    have:=zda (q:=u)
    have:=zav (f:=equT) (sz:=7) hu'
    omega
   exact zwco
structure zv7 (n:Nod):Prop where
 w:(nodT n).w≤100000000
 nest:∀a∈n.autos,zeY 3 a
 tyA:∀a∈n.autos,tyA 3 a
 eqs:∀u∈n.eqs,u.left.length≤1000000000/\ExT u.right
 assume:∀e∈n.assume,ExT e
 ensure:∀e∈n.ensure,ExT e
theorem zuT{es:List En}{n:Nod}(h:(zcf es n).2=0)(hw:(nodT n).w≤100000000):zv7 n:=by
 have hwn:=zdJ n
 unfold zcf at h
 have h1:zmF es n=0:=qav fun hh=>by rw[if_pos hh]at h;exact hh h
 rw[if_neg (by simp[h1])]at h
 have h2:zaf (equE es) n.eqs=0:=qav fun hh=>by rw[if_pos hh,zcj]at h;exact hh h
 rw[if_neg (by simp[h2])]at h
 simp only at h
 unfold zpq at h
 have ha:=zaj (zaz h).1
 have hs:=zaj (zaz (zaz h).2).1
 have he:=zaj (zaz (zaz h).2).2
 have hq:=zaj h2
 refine⟨hw,fun a h=>(zl6 3 a (by have:=zav (f:=zae) (sz:=1) h;omega) (ha a h)).1,fun a h=>(zl6 3 a (by have:=zav (f:=zae) (sz:=1) h;omega) (ha a h)).2,fun u hu=>⟨?_,zje (zjM (hq u hu)) (by have:=zg5 u;have:=zav (f:=equT) (sz:=7) hu;omega)⟩,fun e h=>zje (hs e h) (by have:=zav (f:=exT) (sz:=6) h;omega),fun e h=>zje (he e h) (by have:=zav (f:=exT) (sz:=6) h;omega)⟩
 have:=zda (q:=u)
 have:=zav (f:=equT) (sz:=7) hu
 omega
theorem zm9{p:Prog}(h:(zb3 p).2=0):(zba p).2=0:=qav fun hh=>by
 unfold zb3 at h
 rw[if_pos hh]at h;exact hh h
theorem zcG.more{w:Plc}(h:zcG w){l:List Decl}(hl:l.length+w.env.length≤1000000000):zcG ⟨w.p,w.node,l++w.env⟩:=⟨h.nodes,h.each,by simp only[qae];exact hl⟩
theorem zpo(w:Plc)(hw:zcG w)(F:Plc->Auto->Int)(s:Sta)(hsw:(staT s).w+w.env.length≤1000000000)(hq:∀u∈s.eqs,u.left.length≤1000000000/\ExT u.right)(hu:∀t∈s.unl,ExT t.cond)(hv:∀t∈s.unt,ExT t.cond)
  (hF:∀b∈s.autos,Pure Tryz.prog 59 [.t (plcT ⟨w.p,w.node,s.locals++w.env⟩),.t (zae b)] (.i (F ⟨w.p,w.node,s.locals++w.env⟩ b))):
  Pure Tryz.prog 113 [.t (plcT w),.t (staT s)] (.i (stTy w F s)):=by
 have h1:=zdK s
 have l1:=zai zaa 3 s.locals
 have l2:=zai equT 7 s.eqs
 have l3:=zai zae 1 s.autos
 have l4:=zai zah 8 s.unl
 have l5:=zai zah 8 s.unt
 have d1:(zac s.locals).w=(T.sl 3 (s.locals.map zaa)).w:=rfl
 have hw2:zcG ⟨w.p,w.node,s.locals++w.env⟩:=hw.more (by omega)
 have hi:=zlc w s.locals (by omega)
 have c1:=zfB 172 (plcT w) (fun t:Tran=>zcC w t.cond) s.unl (by omega) (fun t ht=>zgN w hw t (hu t ht))
 have c2:=zjQ 57 (plcT ⟨w.p,w.node,s.locals++w.env⟩) (eqnT ⟨w.p,w.node,s.locals++w.env⟩) s.eqs (by omega) (fun u h=>zja _ hw2 u (hq u h).1 (hq u h).2)
 have c3:=zfy 59 (plcT ⟨w.p,w.node,s.locals++w.env⟩) (F ⟨w.p,w.node,s.locals++w.env⟩) s.autos (by omega) hF
 have c4:=zfB 172 (plcT ⟨w.p,w.node,s.locals++w.env⟩) (fun t:Tran=>zcC ⟨w.p,w.node,s.locals++w.env⟩ t.cond) s.unt (by omega) (fun t ht=>zgN _ hw2 t (hv t ht))
 have hz:stTy w F s=stTy w F s:=rfl
 conv at hz=>rhs;unfold stTy orE
 generalize stTy w F s=z at hz⊢
 generalize zaf (fun t:Tran=>zcC w t.cond) s.unl=z1 at*
 generalize zaf (eqnT ⟨w.p,w.node,s.locals++w.env⟩) s.eqs=z2 at*
 generalize zaf (F ⟨w.p,w.node,s.locals++w.env⟩) s.autos=z3 at*
 generalize zaf (fun t:Tran=>zcC ⟨w.p,w.node,s.locals++w.env⟩ t.cond) s.unt=z4 at*
 unfold plcT plcC at*
 generalize s.locals++w.env=env2 at*
 rw[zii]
 unfold staC
 clear hq hu hv hF hw hw2
 refine so Tryz.func113 ?_
 repeat' (first|refine wkt ?_|refine wka ?_|refine wk ?_|exact wkc|intro hc|refine wk2 ?_ ?_|refine wmb ?_|refine wv hi ?_|refine wvb c1 ?_|refine wvb c2 ?_|refine wvb c3 ?_|refine wvb c4 ?_|fail)
 all_goals(refine RetK.pure rfl (Le.of_eq ?_) rfl;refine congrArg (fun z=>SV.t (T.v (Value.int IntKind.i64 z))) ?_;clear c1 c2 c3 c4 hi;grind)
theorem zgv:∀(k:Nat) (w:Plc) (hw:zcG w) (a:Auto) (haw:(zae a).w+w.env.length≤1000000000) (hn:zeY k a) (hx:tyA k a),
  Pure Tryz.prog 59 [.t (plcT w),.t (zae a)] (.i (zdr k w a))
 | 0,w,hw,a,haw,hn,hx=>absurd hn (by simp[zeY])
 | k+1,w,hw,a,haw,hn,hx=>by
   have h1:=zbJ a
   have l1:=zai staT 6 a.states
   have hst:∀s∈a.states,Pure Tryz.prog 113 [.t (plcT w),.t (staT s)] (.i (stTy w (zdr k) s)):=fun s hs=>by
    have hws:=zav (f:=staT) (sz:=6) hs
    have hw2:=zdK s
    have l2:=zai zaa 3 s.locals
    have d1:(zac s.locals).w=(T.sl 3 (s.locals.map zaa)).w:=rfl
    refine zpo w hw (zdr k) s (by omega) (hx s hs).1 (hx s hs).2.1 (hx s hs).2.2.1 (fun b hb=>?_)
    have:=zav (f:=zae) (sz:=1) hb
    exact zgv k _ (hw.more (by omega)) b (by simp only[qae];omega) (hn s hs b hb) ((hx s hs).2.2.2 b hb)
   have c1:=zjR 113 (plcT w) (stTy w (zdr k)) a.states (by omega) hst
   unfold zdr
   generalize zaf (stTy w (zdr k)) a.states=z at*
   rw[zho]
   unfold zdj
   unfold plcT plcC at*
   clear hst
   refine so Tryz.func59 ?_
   repeat' (first|refine wkt ?_|refine wka ?_|refine wk ?_|exact wkc|intro hc|refine wk2 ?_ ?_|refine wmb ?_|refine wvb c1 ?_|fail)
   exact wkr
theorem zlN{n:Nod}(hw:(nodT n).w≤100000000):znq n:=by
 have h1:=zdJ n
 have l1:=zai zaa 3 n.ins
 have l2:=zai zaa 3 n.outs
 have l3:=zai zaa 3 n.locals
 have d1:(zac n.ins).w=(T.sl 3 (n.ins.map zaa)).w:=rfl
 have d2:(zac n.outs).w=(T.sl 3 (n.outs.map zaa)).w:=rfl
 have d3:(zac n.locals).w=(T.sl 3 (n.locals.map zaa)).w:=rfl
 exact⟨by omega,by omega,by omega⟩
theorem zpU{n:Nod}(hw:(nodT n).w≤100000000):∀d∈zaB n,d.clock.length≤100000000:=fun d hd=>by
 have h1:=zdJ n
 have e1:=zbk n.ins (n.outs++(n.locals++[]))
 have e2:=zbk n.outs (n.locals++[])
 have e3:=zbk n.locals []
 have e4:(zac ([]:List Decl)).w=1:=by rw[w_sl];rfl
 have h2:=(za2 hd).2
 have h3:=zai onT 3 d.clock
 unfold zaB at h2
 omega
theorem Kf.ztH{P:Program}{n:Nat}{q:Bool}{all:Array Oper}{x y:Code}{s:List Fr1}{K:TK}{env:Go.TL.Env}{H:Heap}(h:TR P n x env H (Kf P n (.thn y::s) K)):TO q P n all [] env H (Kf P n (.thn (.seq x y)::s) K):=by
 refine TO.nil ?_
 rw[Kf]
 refine Then.normal ?_
 refine TR.seq ?_
 rw[Kf]at h
 exact h
theorem zwI{k:Nat}(h:(k:Int)≤9223372036854775807):nI k=⟨k,⟨by omega,h⟩⟩:=by unfold nI;rw[dif_pos h]
set_option maxHeartbeats 2000000 in
theorem zgP (p:Prog) (hw:(T.ag (zax p)).w≤100000000):Pure Tryz.prog 25 [.t (.ag (zax p))] (.tup [.t (.ag [T.i (zaN p).1.1,T.i (zaN p).1.2]),.i (zaN p).2]):=by
 have l1:(T.sl 2 (p.enums.map enT)).w+(zaC p.nodes).w≤(T.ag (zax p)).w:=by rw[w_ag];simp only[zax,qaj,qay,qao,qaI];omega
 have hnT:(zaC p.nodes).w=(T.sl 8 (p.nodes.map nodT)).w:=rfl
 have b2:=zai nodT 8 p.nodes
 have m2:(p.nodes.map nodT).length=p.nodes.length:=qaa _
 have hzn:p.nodes.zipIdx.length=p.nodes.length:=by simp
 have hln:∀u∈p.nodes,(nodT u).w≤100000000:=fun u hu=>by
  have h2:=zav (f:=nodT) (sz:=8) hu
  omega
 have hsc:=zlG p hw
 have hz:zaN p=zaN p:=rfl
 conv at hz=>rhs;unfold zaN
 generalize zaN p=z at hz⊢
 have hsn:=fun h=>zih (p:=p) (zm9 h)
 generalize zb3 p=sx at*
 obtain⟨⟨s1,s2⟩,s3⟩:=sx
 simp only at hz hsc hsn
 have hpc:zax p=[.sl 2 (p.enums.map enT),zaC p.nodes]:=rfl
 rw[hpc]at hsc⊢
 refine so Tryz.func25 ?_
 repeat' (first|refine wu ?_|exact wkc|intro hc|refine wk2 ?_ ?_|refine wv hsc ?_|fail)
 ·rw[if_pos (by simpa using hc)]at hz
  subst hz
  exact wkr
 rw[if_neg (by simpa using hc)]at hz
 have hz0:s3=0:=by simpa using hc
 have hsn:=hsn hz0
 clear hsc hc
 refine TR.zal p.nodes.length (fun k=>zaf (fun x=>(nodG p x).2) (p.nodes.zipIdx.take k)=0) (fun k=>[(1,.cp [.sl 2 (p.enums.map enT),zaC p.nodes] 0),(2,.ref 0 0),(23,.t (zaC p.nodes)),(24,.i (p.nodes.map nodT).length),(25,.i k)])
  (fun k=>[.cells [.i 0,.i 0]]) rfl (fun k hlt ha=>?_) (fun ha=>?_)
 ·have hx:=zeV hlt
  have hzi:p.nodes.zipIdx[k]'(by rw[hzn];exact hlt)=(p.nodes[k],k):=by simp
  have g1:=zlQ p (by rw[hzn];exact hlt) ha
  have g2:=zaq (f:=fun x=>(nodG p x).2) (by rw[hzn];exact hlt) ha
  rw[hzi]at g1 g2
  have hnw:=hln _ (qad hlt)
  have hty:=zuT (hsn _ (qad hlt)) hnw
  have hN:=zlN hnw
  have hv:=zcP p.nodes[k] hN (zpU hnw)
  have hk63:(k:Int)≤9223372036854775807:=by omega
  have hvl:(zaB p.nodes[k]).length≤300000000:=by have:=hN.ins;have:=hN.outs;have:=hN.locals;simp[zaB];omega
  have hW:zcG ⟨p,nI k,zaB p.nodes[k]⟩:=⟨by simp only;omega,fun u hu=>zlN (hln u hu),by simp only;omega⟩
  unfold nodG at g1 g2
  simp only at g1 g2
  generalize hL:zaB p.nodes[k]=L at*
  generalize p.nodes[k]=n at*
  have hwn:=zdJ n
  have heq:=fun(u:Equ) (hu:u∈n.eqs)=>zja _ hW u (hty.eqs u hu).1 (hty.eqs u hu).2
  have c1:=zfy 59 (plcT ⟨p,nI k,L⟩) (zdr 3 ⟨p,nI k,L⟩) n.autos (by have:=zai zae 1 n.autos;omega) (fun a h=>zgv 3 _ hW a (by have:=zav (f:=zae) (sz:=1) h;simp only;omega) (hty.nest a h) (hty.tyA a h))
  have c2:=zfz 61 (plcT ⟨p,nI k,L⟩) (zcC ⟨p,nI k,L⟩) n.assume (by have:=zai exT 6 n.assume;omega) (fun e h=>ze1 _ hW e (hty.assume e h))
  have c3:=zfz 61 (plcT ⟨p,nI k,L⟩) (zcC ⟨p,nI k,L⟩) n.ensure (by have:=zai exT 6 n.ensure;omega) (fun e h=>ze1 _ hW e (hty.ensure e h))
  unfold zrg zrx at g1 g2
  generalize eqnT ⟨p,nI k,L⟩=EQ at*
  generalize zaf (zdr 3 ⟨p,nI k,L⟩) n.autos=z1 at*
  generalize zaf (zcC ⟨p,nI k,L⟩) n.assume=z2 at*
  generalize zaf (zcC ⟨p,nI k,L⟩) n.ensure=z3 at*
  rw[zwI hk63]at heq c1 c2 c3
  unfold plcT plcC at heq c1 c2 c3
  dsimp only[T.n]at heq c1 c2 c3
  generalize hR:orE z1 (orE z2 z3)=R at g1 g2
  unfold orE at hR
  unfold nodC at hx hv
  have hel:n.eqs.length≤1000000000:=by have:=zai equT 7 n.eqs;omega
  clear hsn hln hty hW hN hnw hwn
  repeat' (first|refine wkt ?_|refine wka ?_|(refine Kf.ztH ?_;fail)|exact wkc|intro hc|refine wk2 ?_ ?_|fail)
  refine wk ?_
  refine wkt ?_
  refine wka ?_
  refine Kf.ztH ?_
  refine TR.zm2 (envF:=?envF) (HF:=[.cells [.i 0,.i 0],.cells [.t (.sl 2 (p.enums.map enT)),.t (zaC p.nodes),.i k,.t (zac L)]]) [(.t (.ag [.sl 2 (p.enums.map enT),zaC p.nodes]),false),(.i k,false),(.t (.ag (nC n)),false),(.t (zac L),false),(.t (.ag [.sl 2 (p.enums.map enT),zaC p.nodes,T.i k,zac L]),false),(.ref 1 0,true),(.any,true)] [[.cells [.i 0,.i 0]],[.cells [.i 0,.i 0],.cells [.t (.v (.slice none 0 0)),.t (.v (.slice none 0 0)),.i 0,.t (.v (.slice none 0 0))]],[.cells [.i 0,.i 0],.cells [.t (.sl 2 (p.enums.map enT)),.t (zaC p.nodes),.i k,.t (zac L)]]] hmix ?hB ?h0 ?hp ?hF ?hE ?hK
  case hB=>(dsimp only[List.map];decide +kernel)
  case h0=>exact rfl
  case hF=>exact rfl
  case hE=>exact rfl
  case hp=>repeat' (first|refine wu ?_|refine wk2 ?_ ?_|exact wkc|intro hc|refine wv hv ?_|exact trivial|exact qaf rfl rfl|refine qaf (fun H env=>?_) ?_|refine qaf (fun env=>?_) ?_|fail)
  repeat' (first|refine wkt ?_|refine wka ?_|refine wk ?_|exact wkc|intro hc|refine wk2 ?_ ?_|fail)
  have hme:(n.eqs.map equT).length=n.eqs.length:=qaa _
  refine TR.zal n.eqs.length (fun j=>zaf EQ (n.eqs.take j)=0) (fun j=>[(1,.cp [.sl 2 (p.enums.map enT),zaC p.nodes] 0),(2,.ref 0 0),(23,.t (zaC p.nodes)),(24,.i (p.nodes.map nodT).length),(25,.i k),(6,.i k),(7,.cp (nC n) 0),(8,.ref 1 0),(36,.t (.sl 7 (n.eqs.map equT))),(37,.i (n.eqs.map equT).length),(38,.i j)]) (fun _=>[.cells [.i 0,.i 0],.cells [.t (.sl 2 (p.enums.map enT)),.t (zaC p.nodes),.i k,.t (zac L)]]) rfl (fun j hlj ha=>?_) (fun ha=>?_)
  ·have hxe:=ziZ hlj
   have e1:=zaF (f:=EQ) hlj ha
   have e2:=zaq (f:=EQ) hlj ha
   have e3:=zhG (f:=EQ) hlj ha
   have hd:=heq _ (qad hlj)
   generalize n.eqs[j]=u at*
   generalize EQ u=ue at*
   rw[show equT u= .ag (equC u) from rfl]at hd
   unfold equC at*
   clear heq c1 c2 c3
   repeat' (first|refine wkt ?_|refine wka ?_|refine wk ?_|exact wkc|intro hc|refine wk2 ?_ ?_|refine wv hd ?_|fail)
   ·rw[if_pos (by rw[e1 hc];exact hc),e3 hc]at g1
    rw[g1 hc]at hz
    subst hz
    exact wkr
   ·exact zab.zat hlj (e2 (qbg.1 hc))
  have ez:=zaH ha
  rw[if_neg (by simp[ez])]at g1 g2
  simp only at g1 g2
  clear heq
  repeat' (first|refine wkt ?_|refine wka ?_|refine wk ?_|exact wkc|intro hc|refine wk2 ?_ ?_|refine wmb ?_|refine wvb c1 ?_|refine wvb c2 ?_|refine wvb c3 ?_|fail)
  all_goals first
   | (refine zab.ziJ 1 hlt (g2 ?_) rfl rfl rfl rfl rfl;clear c1 c2 c3 g1 g2 hv hz;grind)
   | (have hR0:R≠0:=(by clear c1 c2 c3 g1 g2 hv hz;grind)
      rw[g1 hR0]at hz
      subst hz
      first
       | (have e:R=z1:=(by clear c1 c2 c3 g1 g2 hv;grind);rw[e];exact wkr)
       | (have e:R=z2:=(by clear c1 c2 c3 g1 g2 hv;grind);rw[e];exact wkr)
       | (have e:R=z3:=(by clear c1 c2 c3 g1 g2 hv;grind);rw[e];exact wkr))
 ·rw[<-hzn,qah]at ha
  rw[ziq p ha]at hz
  subst hz
  refine wk ?_
  repeat' (first|refine wu ?_|exact wkc|intro hc|refine wk2 ?_ ?_|fail)
  exact wkr
end Go.Proofs.YtpnnpgbaiobbjaaGreatDoor
