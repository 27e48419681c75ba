import Derived.Test.YtcbhlhmebbkgnaaGreatPk14
import Derived.Test.YtcbhlhmebbkgnaaGreatPk20
import Derived.Test.YtcbhlhmebbkgnaaGreatPk22
import Derived.Test.YtcbhlhmebbkgnaaGreatPk23
import Derived.Test.YtcbhlhmebbkgnaaGreatPk24
import Derived.Test.YtcbhlhmebbkgnaaGreatPk25
import Derived.Test.YtcbhlhmebbkgnaaGreatPk26
set_option linter.unusedSimpArgs false
set_option linter.unusedVariables false
namespace Go.Proofs.YtcbhlhmebbkgnaaGreat
open Go Go.TL
attribute [local irreducible] TR TO Then zaw RetK Sound zab Kf GG zaZ
attribute [local irreducible] zcj
def zd7(V:List Str)(l:List Decl):List Str:=(l.filter fun d=>decide (d.name∈V)).map Decl.name
theorem zj0{V:List Str}{l:List Decl}{k:Nat}(h:k<l.length):zd7 V (l.take (k+1))=if l[k].name∈V then zd7 V (l.take k)++[l[k].name] else zd7 V (l.take k):=by
 unfold zd7
 rw[List.take_succ_eq_append_getElem h,List.filter_append,List.map_append]
 by_cases hm:l[k].name∈V <;> simp[hm]
theorem zid(V:List Str)(l:List Decl):(zd7 V l).length≤l.length:=by
 unfold zd7
 rw[List.length_map]
 exact List.length_filter_le _ _
set_option maxHeartbeats 2000000 in
theorem zfu (p:Prog) (hw:(T.ag (zav p)).w≤100000000) (node:I64):Pure Tryz.prog 12 [.t (.ag (zav p)),.i node.1] (.tup [.t (.sl 1 ((zcb p node).1.map T.s)),.i (zcb p node).2]):=by
 obtain⟨hP,hln,hpl⟩:=zbr hw
 have hml:(p.nodes.map nodT).length=p.nodes.length:=List.length_map _
 have hask:=zme p hw
 have hz:zcb p node=zcb p node:=rfl
 conv at hz=>rhs;unfold zcb
 generalize zcb p node=z at hz⊢
 have hnk:=fun h n hn=>zh6 (p:=p) (zcm h) hn (hln n hn)
 generalize zaF p=t at*
 obtain⟨⟨t1,t2⟩,t3⟩:=t
 simp only at hz hask hnk
 have hpc:zav p=[.sl 2 (p.enums.map enT),zag p.nodes]:=rfl
 rw[hpc]at*
 by_cases h3:t3=0
 ·rw[if_neg (by simp[h3])]at hz
  have hnk:=hnk h3
  by_cases h2:node.1<0\/(p.nodes.length:Int)≤node.1
  ·rw[if_pos h2]at hz
   subst hz
   refine so Tryz.func12 ?_
   repeat' (first|refine wkt ?_|refine wka ?_|refine wk ?_|exact wkc|intro hc|refine wk2 ?_ ?_|refine wv hask ?_|fail)
   all_goals first
    | exact wkr
    | (exfalso;omega)
  rw[if_neg h2]at hz
  obtain⟨k,hk,hkn⟩:∃k:Nat,k<p.nodes.length/\node.1=(k:Int):=⟨node.1.toNat,by omega,by omega⟩
  have hnt:node.1.toNat=k:=by omega
  rw[hnt,List.getElem?_eq_getElem hk]at hz
  simp only at hz
  have hmem:=List.getElem_mem hk
  have hat:(p.nodes.map nodT)[node.1.toNat]?=some (.ag (nodC p.nodes[k])):=by rw[hnt];exact zb7 hk
  have hN:=hP.each _ hmem
  have hv:=zd5 p.nodes[k] hN (hP.clocks _ hmem)
  have hvl:(zao p.nodes[k]).length≤1000000000:=by have:=hN.ins;have:=hN.outs;have:=hN.locals;simp[zao];omega
  have hS:=hnk _ hmem
  have hls:=zfr p.nodes[k] hS.eqs
  have hok:=zhP hS.eqs
  have hnm:∀d∈zao p.nodes[k],d.name.length≤1000000000:=fun d hd=>by
   have h0:=znQ p.nodes[k]
   have:=(za6 hd).1
   have:=hln _ hmem
   omega
  have hzl:z.1=zd7 (zaJ p.nodes[k]) (zao p.nodes[k])/\z.2=0:=by rw[hz];exact⟨rfl,rfl⟩
  obtain⟨z1,z2⟩:=z
  obtain⟨e1,e2⟩:=hzl
  simp only at e1 e2
  subst e1 e2
  clear hz hN hS hP hnk
  generalize zaJ p.nodes[k]=V at*
  generalize zao p.nodes[k]=L at*
  have hmL:(L.map zah).length=L.length:=List.length_map _
  generalize p.nodes[k]=n at hv hat hls hln
  clear hln
  unfold nodC at*
  refine so Tryz.func12 ?_
  repeat' (first|refine wkt ?_|refine wka ?_|refine wv hask ?_|refine wv hv ?_|(apply TO.zrd hls;(iterate 3 exact rfl);exact⟨Le.refl _,trivial⟩;exact rfl)|refine wk ?_|exact wkc|intro hc|refine wk2 ?_ ?_|fail)
  all_goals try(exfalso;omega)
  refine TR.tail 1 9 rfl ?_
  refine TR.weak ?_
  refine TR.zal L.length (fun _=>True) (fun k=>[(8,.mp 0),(9,.sl 1 ((zd7 V (L.take k)).map T.s) 1),(40,.t (zac L)),(41,.i (L.map zah).length),(42,.i k)]) (fun k=>[setB V,.tail ((zd7 V (L.take k)).map T.s).length]) trivial (fun k hlt _=>?_) (fun _=>?_)
  ·have hx:=zbh hlt
   have hnx:=zj0 (V:=V) hlt
   have hno:=hnm _ (List.getElem_mem hlt)
   have hlen:=zid V (L.take k)
   have hlm:((zd7 V (L.take k)).map T.s).length=(zd7 V (L.take k)).length:=List.length_map _
   have hlt':(L.take k).length≤L.length:=by simp;omega
   generalize zd7 V (L.take k)=w at*
   generalize L[k]=u at*
   unfold zb4 at hx
   repeat' (first|refine wu ?_|exact wkc|intro hc|refine wk2 ?_ ?_|(apply TO.zer;(iterate 4 exact rfl);assumption;assumption)|fail)
   ·rw[if_pos hc]at hnx
    exact zab.zak hlt trivial ⟨rfl,by(try dsimp only);rw[hnx,List.map_append];rfl,rfl,rfl,rfl,trivial⟩ (by(try dsimp only);rw[hnx,List.map_append,List.length_append];rfl)
   ·rw[if_neg hc]at hnx
    exact zab.zak hlt trivial ⟨rfl,by(try dsimp only);rw[hnx];rfl,rfl,rfl,rfl,trivial⟩ (by(try dsimp only);rw[hnx])
  ·rw[List.take_length]
   repeat' (first|refine wu ?_|exact wkc|intro hc|refine wk2 ?_ ?_|fail)
   refine zcj.own 9 rfl ?_
   repeat' (first|refine wu ?_|exact wkc|intro hc|refine wk2 ?_ ?_|fail)
   exact wkr
 ·rw[if_pos h3]at hz
  subst hz
  refine so Tryz.func12 ?_
  repeat' (first|refine wkt ?_|refine wka ?_|refine wk ?_|exact wkc|intro hc|refine wk2 ?_ ?_|refine wv hask ?_|fail)
  all_goals first
   | exact wkr
   | (exfalso;omega)
end Go.Proofs.YtcbhlhmebbkgnaaGreat
namespace Go.Proofs.YtcbhlhmebbkgnaaGreat
open Go Go.TL
attribute [local irreducible] TR TO Then zaw RetK Sound zab Kf GG zaZ
theorem zeU(p:Prog)(hp:p.nodes.length≤1000000000):Pure Tryz.prog 27 [.t (.ag (zav p))] (.b (zcW p)):=by
 have hml:(p.nodes.map nodT).length=p.nodes.length:=List.length_map _
 unfold zav
 refine so Tryz.func27 ?_
 repeat' (first|refine wu ?_|exact wkc|intro hc|refine wk2 ?_ ?_|fail)
 refine TR.zal p.nodes.length (fun k=>zcW p=(p.nodes.drop k).all fun n=>decide (n.autos.length=0)) (fun k=>[(1,.cp [.sl 2 (p.enums.map enT),zag p.nodes] 0),(3,.i k)]) (fun _=>[]) rfl (fun k hlt ha=>?_) (fun ha=>?_)
 ·have hx:=zb7 hlt
  rw[List.drop_eq_getElem_cons hlt,List.all_cons]at ha
  generalize p.nodes[k]=n at*
  have hm:(n.autos.map zaj).length=n.autos.length:=List.length_map _
  unfold nodC at hx
  by_cases h0:n.autos.length=0
  ·rw[decide_eq_true h0,Bool.true_and]at ha
   repeat' (first|refine wu ?_|exact wkc|intro hc|refine wk2 ?_ ?_|fail)
   all_goals first
    | exact zab.zak hlt ha
    | (exfalso;omega)
  ·rw[decide_eq_false h0,Bool.false_and]at ha
   rw[ha]
   repeat' (first|refine wu ?_|exact wkc|intro hc|refine wk2 ?_ ?_|fail)
   all_goals first
    | exact wkr
    | (exfalso;omega)
 ·rw[ha,List.drop_of_length_le (Nat.le_refl _)]
  repeat' (first|refine wu ?_|exact wkc|intro hc|refine wk2 ?_ ?_|fail)
  exact wkr
set_option maxHeartbeats 2000000 in
theorem zht (vars:List Decl) (hl:vars.length≤1000000000) (hk:∀d∈vars,zaM d.clock) (l:List Decl) (hll:l.length≤1000000000) (hkl:∀d∈l,zaM d.clock) (h0:∀d∈l,∀o∈d.clock,o.t.1≠0):
  Pure Tryz.prog 47 [.t (zac vars),.t (zac l)] (.b (zdg vars l)):=by
 have hml:(l.map zah).length=l.length:=List.length_map _
 refine so Tryz.func47 ?_
 repeat' (first|refine wu ?_|exact wkc|intro hc|refine wk2 ?_ ?_|fail)
 refine TR.zal l.length (fun k=>zdg vars l=zdg vars (l.drop k)) (fun k=>[(0,.t (zac vars)),(1,.t (zac l)),(5,.i k)]) (fun _=>[]) rfl (fun k hlt ha=>?_) (fun ha=>?_)
 ·have hx:=zbh hlt
  have hkd:=hkl _ (List.getElem_mem hlt)
  have h0d:=h0 _ (List.getElem_mem hlt)
  rw[zhm hlt]at ha
  generalize l[k]=d at*
  have hkd1:=hkd.1
  have hmd:(d.clock.map onT).length=d.clock.length:=List.length_map _
  unfold zb4 at hx
  repeat' (first|refine wu ?_|exact wkc|intro hc|refine wk2 ?_ ?_|fail)
  refine TR.zal d.clock.length (fun j=>zji vars [] d.clock=zji vars (d.clock.take j) (d.clock.drop j)) (fun j=>[(0,.t (zac vars)),(1,.t (zac l)),(5,.i k),(6,.i j)]) (fun _=>[]) rfl (fun j hlt2 ha2=>?_) (fun ha2=>?_)
  ·have hx2:=zmR hlt2
   have ho:=h0d _ (List.getElem_mem hlt2)
   rw[zj8 hlt2,zrO ho]at ha2
   generalize d.clock[j]=o at*
   have hf:=zdG vars hl o.name
   have hsz:zaM (zbI vars o.name).clock:=by
    unfold zbI
    cases h:findD vars o.name with
    | none=>exact zaM.nil
    | some d=>exact hk d (zcL h).1
   generalize zbI vars o.name=x at*
   generalize (findD vars o.name).isSome=fo at*
   rw[show zah x= .ag [.s x.name,T.n x.ty,.sl 3 (x.clock.map onT)] from rfl]at hf
   by_cases ht:x.ty.1=o.t.1
   ·have hs:=zdD x.clock (d.clock.take j) hsz (hkd.take j)
    rw[show onsT (d.clock.take j)= .sl 3 ((d.clock.map onT).take j) by rw[onsT,List.map_take]]at hs
    by_cases hq:x.clock=d.clock.take j
    ·rw[decide_eq_true hq]at hs ha2
     rw[decide_eq_true ht]at ha2
     repeat' (first|refine wkt ?_|refine wka ?_|refine rg [.cp [.s x.name,T.n x.ty,.sl 3 (x.clock.map onT)] 1,.t (T.n x.ty),.cp [.s o.name,T.n o.t,T.n o.tag] 1,.t (T.n o.t),.b false,.b false,.cp [.s x.name,T.n x.ty,.sl 3 (x.clock.map onT)] 2,.t (onsT x.clock),.t (zac l),.i k,.cp [.s d.name,T.n d.ty,.sl 3 (d.clock.map onT)] 0,.cp [.s d.name,T.n d.ty,.sl 3 (d.clock.map onT)] 2,.t (onsT d.clock),.i j,.t (.sl 3 ((d.clock.map onT).take j)),.b true,.b false,.b false] ?_ ?_|refine wv hf ?_|refine wv hs ?_|exact trivial|exact And.intro rfl rfl|refine And.intro (fun H env=>?_) ?_|refine wk ?_|exact wkc|intro hc|refine wk2 ?_ ?_|fail)
     exact zab.zak hlt2 ha2
    ·rw[decide_eq_false hq]at hs ha2
     rw[Bool.and_false,Bool.false_and]at ha2
     rw[ha,ha2]
     repeat' (first|refine wkt ?_|refine wka ?_|refine rg [.cp [.s x.name,T.n x.ty,.sl 3 (x.clock.map onT)] 1,.t (T.n x.ty),.cp [.s o.name,T.n o.t,T.n o.tag] 1,.t (T.n o.t),.b false,.b false,.cp [.s x.name,T.n x.ty,.sl 3 (x.clock.map onT)] 2,.t (onsT x.clock),.t (zac l),.i k,.cp [.s d.name,T.n d.ty,.sl 3 (d.clock.map onT)] 0,.cp [.s d.name,T.n d.ty,.sl 3 (d.clock.map onT)] 2,.t (onsT d.clock),.i j,.t (.sl 3 ((d.clock.map onT).take j)),.b false,.b true,.b true] ?_ ?_|refine wv hf ?_|refine wv hs ?_|exact trivial|exact And.intro rfl rfl|refine And.intro (fun H env=>?_) ?_|refine wk ?_|exact wkc|intro hc|refine wk2 ?_ ?_|fail)
     exact wkr
   ·rw[decide_eq_false ht]at ha2
    rw[ha,ha2]
    repeat' (first|refine wkt ?_|refine wka ?_|refine rg [.cp [.s x.name,T.n x.ty,.sl 3 (x.clock.map onT)] 1,.t (T.n x.ty),.cp [.s o.name,T.n o.t,T.n o.tag] 1,.t (T.n o.t),.b true,.b true,.t (.v undef),.t (.v undef),.t (.v undef),.t (.v undef),.t (.v undef),.t (.v undef),.t (.v undef),.t (.v undef),.t (.v undef),.t (.v undef),.t (.v undef),.b true] ?_ ?_|refine wv hf ?_|exact trivial|exact And.intro rfl rfl|refine And.intro (fun H env=>?_) ?_|refine wk ?_|exact wkc|intro hc|refine wk2 ?_ ?_|fail)
    exact wkr
  ·rw[List.take_length,List.drop_of_length_le (Nat.le_refl _)]at ha2
   rw[ha2]at ha
   repeat' (first|refine wu ?_|exact wkc|intro hc|refine wk2 ?_ ?_|fail)
   exact zab.zak hlt ha
 ·rw[ha,List.drop_of_length_le (Nat.le_refl _)]
  repeat' (first|refine wu ?_|exact wkc|intro hc|refine wk2 ?_ ?_|fail)
  exact wkr
set_option maxHeartbeats 2000000 in
theorem znv (vars:List Decl) (hl:vars.length≤1000000000) (hk:∀d∈vars,zaM d.clock) (h4:∀d∈vars,d.clock.length≤4) (u:Equ) (hu:u.left≠ []) (hul:u.left.length≤1000000000) (he:wEx u.right≤1000000000) (hn:∀x∈flat u.right,x.name.length≤1000000000) (h1:∀x∈flat u.right,oneX x=0) (hkn:∀s∈u.left,(findD vars s).isSome=true)
  (hft:∀ck:List OnC,ck.length≤4->zeu vars (wEx u.right) u.right ck=zcu vars u.right ck):
  Pure Tryz.prog 48 [.t (zac vars),.t (.ag (equC u))] (.i (zjb vars u)):=by
 have hml:(u.left.map T.s).length=u.left.length:=List.length_map _
 obtain⟨s0,ls,hls⟩:∃s0 ls,u.left=s0::ls:=by
  cases h:u.left with
  | nil=>exact absurd h hu
  | cons a b=>exact⟨a,b,rfl⟩
 have h0:(u.left.map T.s)[0]?=some (T.s s0):=by rw[hls];rfl
 have hlen:u.left.length=ls.length+1:=by rw[hls];rfl
 have hf:=zdG vars hl s0
 have hdc:=zfx vars s0
 have hsz:∀s,zaM (zbI vars s).clock/\(zbI vars s).clock.length≤4:=fun s=>by
  unfold zbI
  cases h:findD vars s with
  | none=>exact⟨zaM.nil,by simp[noD]⟩
  | some d=>exact⟨hk d (zcL h).1,h4 d (zcL h).1⟩
 have hs0:=hsz s0
 have hZ:(zbI vars s0).clock=(zbI vars s0).clock:=rfl
 have hfz:=fun s=>zdG vars hl s
 have hsm:=fun s=>zdD (zbI vars s).clock (zbI vars s0).clock (hsz s).1 hs0.1
 have hI0:∀j (hj:j<u.left.length),j≤0->(zbI vars u.left[j]).clock=(zbI vars s0).clock:=fun j hj h=>by
  obtain rfl:j=0:=by omega
  rw[show u.left[0]=s0 by simp[hls]]
 have hfi:=zho vars hl hk _ u.right (Nat.le_refl _) he hn h1 (zbI vars s0).clock hs0.1 hs0.2
 rw[hft _ hs0.2]at hfi
 unfold zjb
 rw[show u.left.headD []=s0 by rw[hls];rfl,<-hdc]
 generalize zcu vars u.right (zbI vars s0).clock=z at*
 generalize hd:zbI vars s0=d at*
 generalize (findD vars s0).isSome=fo at*
 rw[show zah d= .ag [.s d.name,T.n d.ty,.sl 3 (d.clock.map onT)] from rfl]at hf
 unfold equC
 unfold exC at*
 refine so Tryz.func48 ?_
 repeat' (first|refine wkt ?_|refine wka ?_|refine wk ?_|exact wkc|intro hc|refine wk2 ?_ ?_|refine wv hf ?_|fail)
 refine TR.zal ls.length (fun k=>∀j (hj:j<u.left.length),j≤k->(zbI vars u.left[j]).clock=d.clock) (fun k=>[(0,.t (zac vars)),(3,.cp [.sl 1 (u.left.map T.s),T.n u.right.kind,T.n u.right.op,T.n u.right.t,T.n u.right.v,.s u.right.name,.sl 6 (u.right.args.map exT)] 0),(5,.cp [.s d.name,T.n d.ty,.sl 3 (d.clock.map onT)] 0),(7,.i ((k+1:Nat):Int))]) (fun _=>[]) hI0 (fun k hlt ha=>?_) (fun ha=>?_)
 ·have hlt2:k+1<u.left.length:=by omega
  have hx:=at_s hlt2
  have hf2:=hfz u.left[k+1]
  have hs:=hsm u.left[k+1]
  have hmem:=List.getElem_mem hlt2
  have hkk:=hkn _ hmem
  have hnx:(zbI vars u.left[k+1]).clock=d.clock->∀j (hj:j<u.left.length),j≤k+1->(zbI vars u.left[j]).clock=d.clock:=fun h j hj hjk=>by
   by_cases hq:j=k+1
   ·subst hq;exact h
   ·exact ha j hj (by omega)
  have hbad:(zbI vars u.left[k+1]).clock≠d.clock->¬(u.left.all fun s=>onX vars s d.clock)=true:=fun h hall=>by
   have:=List.all_eq_true.1 hall _ hmem
   rw[zrj hkk]at this
   exact h (of_decide_eq_true this)
  generalize (findD vars u.left[k+1]).isSome=fo2 at*
  generalize zbI vars u.left[k+1]=x at*
  generalize u.left[k+1]=s at*
  rw[show zah x= .ag [.s x.name,T.n x.ty,.sl 3 (x.clock.map onT)] from rfl]at hf2
  by_cases hq:x.clock=d.clock
  ·rw[decide_eq_true hq]at hs
   repeat' (first|refine wkt ?_|refine wka ?_|refine wk ?_|exact wkc|intro hc|refine wk2 ?_ ?_|refine wv hf2 ?_|refine wv hs ?_|fail)
   exact zab.zak hlt (hnx hq)
  ·rw[decide_eq_false hq]at hs
   rw[if_neg (hbad hq)]
   repeat' (first|refine wkt ?_|refine wka ?_|refine wk ?_|exact wkc|intro hc|refine wk2 ?_ ?_|refine wv hf2 ?_|refine wv hs ?_|fail)
   exact wkr
 ·have hall:(u.left.all fun s=>onX vars s d.clock)=true:=by
   rw[List.all_eq_true]
   intro s hs
   obtain⟨j,hj,rfl⟩:=List.getElem_of_mem hs
   rw[zrj (hkn _ hs),ha j hj (by omega)]
   exact decide_eq_true rfl
  rw[if_pos hall]
  repeat' (first|refine wu ?_|exact wkc|intro hc|refine wk2 ?_ ?_|refine wv hfi ?_|fail)
  exact wkr
theorem zff(vars:List Decl)(hl:vars.length≤1000000000)(hk:∀d∈vars,zaM d.clock)(l:List Ex)(hll:l.length≤1000000000)(hw:∀e∈l,(wEx e≤1000000000/\∀x∈flat e,x.name.length≤1000000000)/\(∀x∈flat e,oneX x=0)/\zeu vars (wEx e) e []=zcu vars e []):
  Pure Tryz.prog 49 [.t (zac vars),.t (.sl 6 (l.map exT))] (.i (zaa (fun e=>zcu vars e []) l)):=by
 have hml:(l.map exT).length=l.length:=List.length_map _
 have hs:∀e∈l,Pure Tryz.prog 77 [.t (zac vars),.t (.ag (exC e)),.t (onsT [])] (.i (zcu vars e [])):=fun e he=>by
  obtain⟨⟨w1,w2⟩,w3,w4⟩:=hw e he
  rw[<-w4]
  exact zho vars hl hk _ e (Nat.le_refl _) w1 w2 w3 [] zaM.nil (by simp)
 obtain⟨FX,hFX⟩:∃FX:Ex->Int,∀e,FX e=zcu vars e []:=⟨_,fun _=>rfl⟩
 simp only[<-hFX]at hs⊢
 clear hw
 refine so Tryz.func49 ?_
 repeat' (first|refine wu ?_|exact wkc|intro hc|refine wk2 ?_ ?_|fail)
 refine TR.zal l.length (fun k=>zaa FX (l.take k)=0) (fun k=>[(0,.t (zac vars)),(1,.t (.sl 6 (l.map exT))),(5,.i k)]) (fun _=>[]) rfl (fun k hlt ha=>?_) (fun ha=>?_)
 ·have hx:=zbd hlt
  have g1:=zan (f:=FX) hlt ha
  have g2:=zai (f:=FX) hlt ha
  have hs:=hs _ (List.getElem_mem hlt)
  generalize l[k]=x at*
  generalize FX x=r at*
  unfold exC at hx hs
  repeat' (first|refine wkt ?_|refine wka ?_|refine wk ?_|exact wkc|intro hc|refine wk2 ?_ ?_|refine wv hs ?_|fail)
  all_goals first
   | exact zab.zak hlt (g2 (by omega))
   | (rw[g1 (by omega)];exact wkr)
 ·rw[zar ha]
  repeat' (first|refine wu ?_|exact wkc|intro hc|refine wk2 ?_ ?_|fail)
  exact wkr
mutual
def zkz:Ex->List Ex
 | .mk k o t v n l=>.mk k o t v n l::zj4 l
def zj4:List Ex->List Ex
 | []=>[]
 | a::l=>zkz a++zj4 l
end
mutual
def depS:Ex->Int
 | .mk _ _ _ _ _ l=>zrr l 0+1
def zrr:List Ex->Int->Int
 | [],a=>a
 | x::l,a=>zrr l (max a (depS x))
end
mutual
def resS (w:Plc):Ex->Bool->List Int×Int
 | .mk k o t v n l,b=>if(heads (zoZ w l)).2≠0 then([],(heads (zoZ w l)).2) else zm2 w (.mk k o t v n l) (heads (zoZ w l)).1 b
def zoZ (w:Plc):List Ex->List (List Int×Int)
 | []=>[]
 | a::l=>resS w a true::zoZ w l
end
theorem zow:∀(m:Nat) (e:Ex),wEx e≤m->flat e=zkz e/\zaH e=depS e/\∀w b,resT w b e=resS w e b
 | 0,e,h=>by have:=zaI e;omega
 | m+1,.mk k o t v n l,h=>by
   have ih:∀a∈l,flat a=zkz a/\zaH a=depS a/\∀w b,resT w b a=resS w a b:=fun a ha=>zow m a (by have:=zaE (e:=.mk k o t v n l) (x:=a) ha;omega)
   have h1:∀l:List Ex,(∀a∈l,flat a=zkz a)->flats l=zj4 l:=by
    intro l
    induction l with
    | nil=>intro _;rfl
    | cons a l ih=>intro h;rw[zj4,<-ih fun b hb=>h b (by simp[hb]),<-h a (by simp)];simp[flats]
   have h2:∀(l:List Ex) (x:Int),(∀a∈l,zaH a=depS a)->(l.map zaH).foldl max x=zrr l x:=by
    intro l
    induction l with
    | nil=>intro x _;rfl
    | cons a l ih=>intro x h;rw[zrr,List.map_cons,List.foldl_cons,ih _ fun b hb=>h b (by simp[hb]),h a (by simp)]
   have h3:∀(w:Plc) (l:List Ex),(∀a∈l,∀b,resT w b a=resS w a b)->l.map (resT w true)=zoZ w l:=by
    intro w l
    induction l with
    | nil=>intro _;rfl
    | cons a l ih=>intro h;rw[zoZ,List.map_cons,ih fun b hb=>h b (by simp[hb]),h a (by simp)]
   refine⟨?_,?_,fun w b=>?_⟩
   ·rw[za2,zkz];exact congrArg _ (h1 l fun a ha=>(ih a ha).1)
   ·rw[zdZ,depS];exact congrArg (·+1) (h2 l 0 fun a ha=>(ih a ha).2.1)
   ·rw[zfq,resS,<-h3 w l fun a ha=>(ih a ha).2.2 w];rfl
theorem zmG(e:Ex):flat e=zkz e:=(zow _ e (Nat.le_refl _)).1
theorem zuv(e:Ex):zaH e=depS e:=(zow _ e (Nat.le_refl _)).2.1
theorem zuh(w:Plc)(b:Bool)(e:Ex):resT w b e=resS w e b:=(zow _ e (Nat.le_refl _)).2.2 w b
theorem zr2(e:Ex):wEx e=(zkz e).length:=by rw[<-zmG,zdp]
theorem zt9(l:List Ex):flats l=zj4 l:=by
 induction l with
 | nil=>rfl
 | cons a l ih=>rw[zj4,<-ih,<-zmG];simp[flats]
def kA:Ex:=.mk (i64 2) (i64 0) (i64 0) (i64 0) [97] []
theorem zdw:∀(m:Nat) (e:Ex),wEx e≤m->∀(q:Nat),1≤q->q≤1000000->Pure Tryz.prog 11 [.t (.ag (exC e)),.i q] (.i (min (wEx e) q:Nat)):=by
 intro m
 induction m with
 | zero=>intro e he;have:=zaI e;omega
 | succ m ih0=>
   intro e he q hq1 hq2
   have hw:=zet e
   have ih:∀x∈e.args,∀(q:Nat),1≤q->q≤1000000->Pure Tryz.prog 11 [.t (.ag (exC x)),.i q] (.i (min (wEx x) q:Nat)):=fun x hx q h1 h2=>ih0 x (by have:=zaE hx;omega) q h1 h2
   clear ih0
   rw[hw]
   generalize hL:e.args=L at ih⊢
   have hml:(L.map exT).length=L.length:=List.length_map _
   unfold exC
   rw[hL]
   refine so Tryz.func11 ?_
   repeat' (first|refine wu ?_|exact wkc|intro hc|refine wk2 ?_ ?_|fail)
   refine TR.zal L.length (fun k=>k<1+((L.take k).map wEx).sum) (fun k=>[(1,.i q),(2,.cp [T.n e.kind,T.n e.op,T.n e.t,T.n e.v,.s e.name,.sl 6 (L.map exT)] 0),(5,.i (min (1+((L.take k).map wEx).sum) q:Nat)),(6,.i k)]) (fun _=>[]) (by simp) (fun k hlt hk=>?_) (fun hk=>?_) ⟨rfl,rfl,by rw[show min (1+((L.take 0).map wEx).sum) q=1 from by simp;omega];rfl,rfl,trivial⟩
   ·have hx:=zbd hlt
    have htk:((L.take (k+1)).map wEx).sum=((L.take k).map wEx).sum+wEx L[k]:=by rw[zaG hlt,List.map_append,List.sum_append];simp
    have hle:((L.take k).map wEx).sum≤(L.map wEx).sum:=by
     conv=>rhs;rw[<-List.take_append_drop k L]
     rw[List.map_append,List.sum_append];omega
    have hwp:=zaI L[k]
    have hi:=ih L[k] (List.getElem_mem hlt)
    generalize L[k]=x at hx htk hwp hi
    generalize hS:((L.take k).map wEx).sum=S at*
    generalize hT:(L.map wEx).sum=W at*
    unfold exC at hx hi
    by_cases hc0:1+S<q
    ·have hn:min (1+S) q=1+S:=by omega
     rw[hn]
     have hi2:=hi (q-(1+S)) (by omega) (by omega)
     rw[show((q-(1+S):Nat):Int)=(q:Int)-((1+S:Nat):Int) from by omega]at hi2
     have hr:((1+S:Nat):Int)+((min (wEx x) (q-(1+S)):Nat):Int)=((min (1+(S+wEx x)) q:Nat):Int):=by omega
     generalize min (wEx x) (q-(1+S))=z at hi2 hr
     have hz:z≤1000000:=by omega
     repeat' (first|refine wu ?_|exact wkc|intro hc|refine wk2 ?_ ?_|refine wv hi2 ?_|fail)
     exact zab.zak hlt (by rw[htk];omega) ⟨rfl,rfl,by rw[htk,<-hr];rfl,rfl,trivial⟩
    ·have hn:min (1+S) q=q:=by omega
     rw[hn,show min (1+W) q=q from by omega]
     repeat' (first|refine wu ?_|exact wkc|intro hc|refine wk2 ?_ ?_|fail)
     all_goals first
      | (exfalso;omega)
      | (refine RetK.pure rfl (Le.of_eq ?_) rfl;refine congrArg (fun z=>SV.t (T.v (Value.int IntKind.i64 z))) ?_;omega)
   ·rw[List.take_length]
    repeat' (first|refine wu ?_|exact wkc|intro hc|refine wk2 ?_ ?_|fail)
    all_goals first
     | (exfalso;omega)
     | (refine RetK.pure rfl (Le.of_eq ?_) rfl;refine congrArg (fun z=>SV.t (T.v (Value.int IntKind.i64 z))) ?_;omega)
end Go.Proofs.YtcbhlhmebbkgnaaGreat
namespace Go.TL
open Go
def FinK(id:Nat)(EF:Env)(GF:Heap)(K:TK):TK
 | .exit i,env,H=>i=id/\env.sub EF/\H=GF
 | e,env,H=>K e env H
theorem TR.fin{P:Program}{n id:Nat}{env EF:Env}{H GF:Heap}{K:TK}{c:Code}(h:TR P n c env H (FinK id EF GF K))(fin:K (.exit id) EF GF):TR P n c env H K:=
 TR.weak (TR.mono h fun te env H hk=>by
  cases te with
  | exit i=>
    obtain⟨rfl,h1,rfl⟩:=hk
    exact⟨EF,fun i v hv=>⟨v,Env.zfY h1 i v hv,Le.refl v⟩,fin⟩
  | _=>exact zcj.done hk)
section
variable {P:Program}{n:Nat}{env:Env}{K:TK}{all:Array Oper}{rest:List Oper}{d:Nat}{ty:TypeId}{pos:String}{aft:Array Edge}{H:Heap}{q:Bool}
theorem TO.quoN{t t':TypeId}{x y:Operand}{a b:Nat}(hd:Nat.ble (d+1) n=true)(hx:env.val x=some (.i a))(hy:env.val y=some (.i b))(hb:0<b)(ha:a≤1000000000000)
  (k:TO q P n all rest ((d,.i (a / b:Nat))::env) H K):TO q P n all (⟨some d,.binOp .quo t x y t',ty,pos,aft,none⟩::rest) env H K:=
 TO.bquo hd hx hy (by omega) (by
  have h2:a / b≤a:=Nat.div_le_self a b
  rw[show((a:Int).tdiv b)=((a / b:Nat):Int) from by rw[Int.ofNat_tdiv]]
  generalize a / b=c at*
  rw[zeJ (by omega) (by omega)];exact k)
end
end Go.TL
set_option linter.unusedVariables false
set_option linter.unusedSimpArgs false
namespace Go.Proofs.YtcbhlhmebbkgnaaGreat
open Go Go.TL
attribute [local irreducible] TR TO Then zaw RetK Sound zab Kf GG zaZ
def wgs{α:Type}(g:Nat->α->Nat)(q:Nat):List α->Nat->Nat
 | [],n=>n
 | x::l,n=>if n<q then wgs g q l (g n x) else n
theorem zoh{α:Type}{g:Nat->α->Nat}{q n:Nat}(h:¬n<q):∀(l:List α),wgs g q l n=n
 | []=>rfl
 | x::l=>by rw[wgs,if_neg h]
theorem zgO{α:Type}(g:Nat->α->Nat)(q:Nat):∀(a b:List α) (n:Nat),wgs g q (a++b) n=wgs g q b (wgs g q a n)
 | [],b,n=>rfl
 | x::a,b,n=>by
   rw[List.cons_append,wgs,wgs]
   by_cases h:n<q
   ·rw[if_pos h,if_pos h,zgO g q a b]
   ·rw[if_neg h,if_neg h,zoh h]
theorem zdA{α:Type}{g:Nat->α->Nat}{q n:Nat}{l:List α}{k:Nat}(hk:k<l.length)(h:wgs g q (l.take k) n<q):wgs g q (l.take (k+1)) n=g (wgs g q (l.take k) n) l[k]:=by
 rw[List.take_succ_eq_append_getElem hk,zgO,wgs,if_pos h,wgs]
theorem zdx{α:Type}{g:Nat->α->Nat}{q n:Nat}{l:List α}{k:Nat}(h:¬wgs g q (l.take k) n<q):wgs g q l n=wgs g q (l.take k) n:=by
 conv=>lhs;rw[<-List.take_append_drop k l]
 rw[zgO,zoh h]
theorem zdb{α:Type}{g:Nat->α->Nat}{q B:Nat}:∀(l:List α) (n:Nat),n≤B->(∀n,n<q->∀x∈l,g n x≤B)->wgs g q l n≤B
 | [],n,h,_=>h
 | x::l,n,h,hg=>by
   rw[wgs]
   split
   ·rename_i hq
    exact zdb l _ (hg n hq x (by simp)) fun n hn y hy=>hg n hn y (by simp[hy])
   ·exact h
def wD(q:Nat)(l:List Decl):Nat:=wgs (fun n x=>n+((x.clock.map onT).length+x.name.length / 100)) q l l.length
theorem zmE{q:Nat}(hq:q≤1500){l:List Decl}(hl:l.length≤100000000)(hx:∀x∈l,(x.clock.map onT).length≤100000000/\x.name.length≤100000000):wD q l≤200000000:=
 zdb l _ (by omega) fun n hn x h=>by have:=hx x h;omega
theorem zhF(q:Nat)(hq1:1≤q)(hq:q≤1500)(l:List Decl)(hl:l.length≤100000000)(hx:∀x∈l,(x.clock.map onT).length≤100000000/\x.name.length≤100000000):Pure Tryz.prog 41 [.t (zac l),.i q] (.i (wD q l:Nat)):=by
 have hml:(l.map zah).length=l.length:=List.length_map _
 unfold wD
 refine so Tryz.func41 ?_
 repeat' (first|refine wu ?_|exact wkc|intro hc|refine wk2 ?_ ?_|fail)
 refine TR.fin (id:=0) (EF:=[(5,.i (wgs (fun n x=>n+((x.clock.map onT).length+x.name.length / 100)) q l l.length:Nat))]) (GF:=[]) (TR.zal l.length (fun _=>True) (fun k=>[(0,.t (zac l)),(1,.i q),(5,.i (wgs (fun n x=>n+((x.clock.map onT).length+x.name.length / 100)) q (l.take k) l.length:Nat)),(6,.i k)]) (fun _=>[]) trivial (fun k hlt _=>?_) (fun _=>?_) ⟨rfl,rfl,by rw[<-hml];rfl,rfl,trivial⟩) ?_
 ·have hat:=zbh hlt
  have hxk:=hx _ (List.getElem_mem hlt)
  have hb:wgs (fun n (x:Decl)=>n+((x.clock.map onT).length+x.name.length / 100)) q (l.take k) l.length≤200000000:=zdb _ _ (by omega) fun n hn x h=>by have:=hx x (List.mem_of_mem_take h);omega
  by_cases hn:wgs (fun n (x:Decl)=>n+((x.clock.map onT).length+x.name.length / 100)) q (l.take k) l.length<q
  ·have hs:=zdA hlt hn
   generalize wgs (fun n (x:Decl)=>n+((x.clock.map onT).length+x.name.length / 100)) q (l.take k) l.length=n at*
   generalize l[k]=x at*
   rw[show n+((x.clock.map onT).length+x.name.length / 100)=n+(x.clock.map onT).length+x.name.length / 100 by omega]at hs
   unfold zb4 at hat
   repeat' (first|refine wkt ?_|(apply TO.quoN (b:=100);(iterate 3 exact rfl);omega;omega)|exact trivial|exact And.intro rfl rfl|refine And.intro (fun H env=>?_) ?_|refine wk ?_|exact wkc|intro hc|refine wk2 ?_ ?_|fail)
   exact zab.zak hlt trivial ⟨rfl,rfl,by(try dsimp only);rw[hs];rfl,rfl,trivial⟩
  ·have hs:=zdx hn
   generalize wgs (fun n (x:Decl)=>n+((x.clock.map onT).length+x.name.length / 100)) q (l.take k) l.length=n at*
   rw[hs]
   repeat' (first|refine wu ?_|exact wkc|intro hc|refine wk2 ?_ ?_|fail)
   exact⟨rfl,⟨rfl,trivial⟩,rfl⟩
 ·rw[List.take_length]
  repeat' (first|refine wu ?_|exact wkc|intro hc|refine wk2 ?_ ?_|fail)
  all_goals exact⟨rfl,⟨rfl,trivial⟩,rfl⟩
 ·repeat' (first|refine wu ?_|exact wkc|intro hc|refine wk2 ?_ ?_|fail)
  exact wkr
def wE(q:Nat)(l:List Equ):Nat:=wgs (fun n x=>n+((x.left.map T.s).length+min (wEx x.right) q)) q l l.length
theorem zrv{q:Nat}(hq:q≤1500){l:List Equ}(hl:l.length≤100000000)(hx:∀x∈l,(x.left.map T.s).length≤100000000):wE q l≤200000000:=
 zdb l _ (by omega) fun n hn x h=>by have:=hx x h;omega
theorem zoy(q:Nat)(hq1:1≤q)(hq:q≤1500)(l:List Equ)(hl:l.length≤100000000)(hx:∀x∈l,(x.left.map T.s).length≤100000000):Pure Tryz.prog 42 [.t (.sl 7 (l.map equT)),.i q] (.i (wE q l:Nat)):=by
 have hml:(l.map equT).length=l.length:=List.length_map _
 unfold wE
 refine so Tryz.func42 ?_
 repeat' (first|refine wu ?_|exact wkc|intro hc|refine wk2 ?_ ?_|fail)
 refine TR.fin (id:=0) (EF:=[(5,.i (wgs (fun n x=>n+((x.left.map T.s).length+min (wEx x.right) q)) q l l.length:Nat))]) (GF:=[]) (TR.zal l.length (fun _=>True) (fun k=>[(0,.t (.sl 7 (l.map equT))),(1,.i q),(5,.i (wgs (fun n x=>n+((x.left.map T.s).length+min (wEx x.right) q)) q (l.take k) l.length:Nat)),(6,.i k)]) (fun _=>[]) trivial (fun k hlt _=>?_) (fun _=>?_) ⟨rfl,rfl,by rw[<-hml];rfl,rfl,trivial⟩) ?_
 ·have hat:=zcP hlt
  have hxk:=hx _ (List.getElem_mem hlt)
  have hb:wgs (fun n (x:Equ)=>n+((x.left.map T.s).length+min (wEx x.right) q)) q (l.take k) l.length≤200000000:=zdb _ _ (by omega) fun n hn x h=>by have:=hx x (List.mem_of_mem_take h);omega
  by_cases hn:wgs (fun n (x:Equ)=>n+((x.left.map T.s).length+min (wEx x.right) q)) q (l.take k) l.length<q
  ·have hs:=zdA hlt hn
   generalize wgs (fun n (x:Equ)=>n+((x.left.map T.s).length+min (wEx x.right) q)) q (l.take k) l.length=n at*
   generalize l[k]=x at*
   rw[show n+((x.left.map T.s).length+min (wEx x.right) q)=n+(x.left.map T.s).length+min (wEx x.right) q by omega]at hs
   have hw:=zdw _ x.right (Nat.le_refl _) q hq1 (by omega)
   have hmq:min (wEx x.right) q≤1500:=by omega
   generalize min (wEx x.right) q=wq at*
   unfold exC at hw
   unfold equC at hat
   repeat' (first|refine wkt ?_|refine rg [.i n,.t (.sl 7 (l.map equT)),.i k,.cp [.sl 1 (x.left.map T.s),T.n x.right.kind,T.n x.right.op,T.n x.right.t,T.n x.right.v,.s x.right.name,.sl 6 (x.right.args.map exT)] 0,.cp [.sl 1 (x.left.map T.s),T.n x.right.kind,T.n x.right.op,T.n x.right.t,T.n x.right.v,.s x.right.name,.sl 6 (x.right.args.map exT)] 0,.t (.sl 1 (x.left.map T.s)),.i (x.left.map T.s).length,.i (n+(x.left.map T.s).length:Nat),.t (.sl 7 (l.map equT)),.i k,.cp [.sl 1 (x.left.map T.s),T.n x.right.kind,T.n x.right.op,T.n x.right.t,T.n x.right.v,.s x.right.name,.sl 6 (x.right.args.map exT)] 0,.cp [.sl 1 (x.left.map T.s),T.n x.right.kind,T.n x.right.op,T.n x.right.t,T.n x.right.v,.s x.right.name,.sl 6 (x.right.args.map exT)] 1,.t (.ag [T.n x.right.kind,T.n x.right.op,T.n x.right.t,T.n x.right.v,.s x.right.name,.sl 6 (x.right.args.map exT)]),.i q,.i (wq:Nat),.i (n+(x.left.map T.s).length+wq:Nat),.i (n+(x.left.map T.s).length+wq:Nat)] ?_ ?_|refine wv hw ?_|exact trivial|exact And.intro rfl rfl|refine And.intro (fun H env=>?_) ?_|refine wk ?_|exact wkc|intro hc|refine wk2 ?_ ?_|fail)
   exact zab.zak hlt trivial ⟨rfl,rfl,by(try dsimp only);rw[hs];rfl,rfl,trivial⟩
  ·have hs:=zdx hn
   generalize wgs (fun n (x:Equ)=>n+((x.left.map T.s).length+min (wEx x.right) q)) q (l.take k) l.length=n at*
   rw[hs]
   repeat' (first|refine wu ?_|exact wkc|intro hc|refine wk2 ?_ ?_|fail)
   exact⟨rfl,⟨rfl,trivial⟩,rfl⟩
 ·rw[List.take_length]
  repeat' (first|refine wu ?_|exact wkc|intro hc|refine wk2 ?_ ?_|fail)
  all_goals exact⟨rfl,⟨rfl,trivial⟩,rfl⟩
 ·repeat' (first|refine wu ?_|exact wkc|intro hc|refine wk2 ?_ ?_|fail)
  exact wkr
def wX(q:Nat)(l:List Ex):Nat:=wgs (fun n x=>n+(min (wEx x) q)) q l l.length
theorem zrx{q:Nat}(hq:q≤1500){l:List Ex}(hl:l.length≤100000000)(hx:∀x∈l,wEx x≤1000000000):wX q l≤200000000:=
 zdb l _ (by omega) fun n hn x h=>by have:=hx x h;omega
theorem zoz(q:Nat)(hq1:1≤q)(hq:q≤1500)(l:List Ex)(hl:l.length≤100000000)(hx:∀x∈l,wEx x≤1000000000):Pure Tryz.prog 43 [.t (.sl 6 (l.map exT)),.i q] (.i (wX q l:Nat)):=by
 have hml:(l.map exT).length=l.length:=List.length_map _
 unfold wX
 refine so Tryz.func43 ?_
 repeat' (first|refine wu ?_|exact wkc|intro hc|refine wk2 ?_ ?_|fail)
 refine TR.fin (id:=0) (EF:=[(5,.i (wgs (fun n x=>n+(min (wEx x) q)) q l l.length:Nat))]) (GF:=[]) (TR.zal l.length (fun _=>True) (fun k=>[(0,.t (.sl 6 (l.map exT))),(1,.i q),(5,.i (wgs (fun n x=>n+(min (wEx x) q)) q (l.take k) l.length:Nat)),(6,.i k)]) (fun _=>[]) trivial (fun k hlt _=>?_) (fun _=>?_) ⟨rfl,rfl,by rw[<-hml];rfl,rfl,trivial⟩) ?_
 ·have hat:=zbd hlt
  have hxk:=hx _ (List.getElem_mem hlt)
  have hb:wgs (fun n (x:Ex)=>n+(min (wEx x) q)) q (l.take k) l.length≤200000000:=zdb _ _ (by omega) fun n hn x h=>by have:=hx x (List.mem_of_mem_take h);omega
  by_cases hn:wgs (fun n (x:Ex)=>n+(min (wEx x) q)) q (l.take k) l.length<q
  ·have hs:=zdA hlt hn
   generalize wgs (fun n (x:Ex)=>n+(min (wEx x) q)) q (l.take k) l.length=n at*
   generalize l[k]=x at*
   have hw:=zdw _ x (Nat.le_refl _) q hq1 (by omega)
   have hmq:min (wEx x) q≤1500:=by omega
   generalize min (wEx x) q=wq at*
   unfold exC at hw
   unfold exC at hat
   repeat' (first|refine wkt ?_|refine wv hw ?_|exact trivial|exact And.intro rfl rfl|refine And.intro (fun H env=>?_) ?_|refine wk ?_|exact wkc|intro hc|refine wk2 ?_ ?_|fail)
   exact zab.zak hlt trivial ⟨rfl,rfl,by(try dsimp only);rw[hs];rfl,rfl,trivial⟩
  ·have hs:=zdx hn
   generalize wgs (fun n (x:Ex)=>n+(min (wEx x) q)) q (l.take k) l.length=n at*
   rw[hs]
   repeat' (first|refine wu ?_|exact wkc|intro hc|refine wk2 ?_ ?_|fail)
   exact⟨rfl,⟨rfl,trivial⟩,rfl⟩
 ·rw[List.take_length]
  repeat' (first|refine wu ?_|exact wkc|intro hc|refine wk2 ?_ ?_|fail)
  all_goals exact⟨rfl,⟨rfl,trivial⟩,rfl⟩
 ·repeat' (first|refine wu ?_|exact wkc|intro hc|refine wk2 ?_ ?_|fail)
  exact wkr
def wT(q:Nat)(l:List Tran):Nat:=wgs (fun n x=>n+(min (wEx x.cond) q)) q l l.length
theorem zrL{q:Nat}(hq:q≤1500){l:List Tran}(hl:l.length≤100000000)(hx:∀x∈l,wEx x.cond≤1000000000):wT q l≤200000000:=
 zdb l _ (by omega) fun n hn x h=>by have:=hx x h;omega
theorem zn0(q:Nat)(hq1:1≤q)(hq:q≤1500)(l:List Tran)(hl:l.length≤100000000)(hx:∀x∈l,wEx x.cond≤1000000000):Pure Tryz.prog 70 [.t (.sl 8 (l.map zat)),.i q] (.i (wT q l:Nat)):=by
 have hml:(l.map zat).length=l.length:=List.length_map _
 unfold wT
 refine so Tryz.func70 ?_
 repeat' (first|refine wu ?_|exact wkc|intro hc|refine wk2 ?_ ?_|fail)
 refine TR.fin (id:=0) (EF:=[(5,.i (wgs (fun n x=>n+(min (wEx x.cond) q)) q l l.length:Nat))]) (GF:=[]) (TR.zal l.length (fun _=>True) (fun k=>[(0,.t (.sl 8 (l.map zat))),(1,.i q),(5,.i (wgs (fun n x=>n+(min (wEx x.cond) q)) q (l.take k) l.length:Nat)),(6,.i k)]) (fun _=>[]) trivial (fun k hlt _=>?_) (fun _=>?_) ⟨rfl,rfl,by rw[<-hml];rfl,rfl,trivial⟩) ?_
 ·have hat:=zky hlt
  have hxk:=hx _ (List.getElem_mem hlt)
  have hb:wgs (fun n (x:Tran)=>n+(min (wEx x.cond) q)) q (l.take k) l.length≤200000000:=zdb _ _ (by omega) fun n hn x h=>by have:=hx x (List.mem_of_mem_take h);omega
  by_cases hn:wgs (fun n (x:Tran)=>n+(min (wEx x.cond) q)) q (l.take k) l.length<q
  ·have hs:=zdA hlt hn
   generalize wgs (fun n (x:Tran)=>n+(min (wEx x.cond) q)) q (l.take k) l.length=n at*
   generalize l[k]=x at*
   have hw:=zdw _ x.cond (Nat.le_refl _) q hq1 (by omega)
   have hmq:min (wEx x.cond) q≤1500:=by omega
   generalize min (wEx x.cond) q=wq at*
   unfold exC at hw
   unfold zgC at hat
   repeat' (first|refine wkt ?_|refine wv hw ?_|exact trivial|exact And.intro rfl rfl|refine And.intro (fun H env=>?_) ?_|refine wk ?_|exact wkc|intro hc|refine wk2 ?_ ?_|fail)
   exact zab.zak hlt trivial ⟨rfl,rfl,by(try dsimp only);rw[hs];rfl,rfl,trivial⟩
  ·have hs:=zdx hn
   generalize wgs (fun n (x:Tran)=>n+(min (wEx x.cond) q)) q (l.take k) l.length=n at*
   rw[hs]
   repeat' (first|refine wu ?_|exact wkc|intro hc|refine wk2 ?_ ?_|fail)
   exact⟨rfl,⟨rfl,trivial⟩,rfl⟩
 ·rw[List.take_length]
  repeat' (first|refine wu ?_|exact wkc|intro hc|refine wk2 ?_ ?_|fail)
  all_goals exact⟨rfl,⟨rfl,trivial⟩,rfl⟩
 ·repeat' (first|refine wu ?_|exact wkc|intro hc|refine wk2 ?_ ?_|fail)
  exact wkr
end Go.Proofs.YtcbhlhmebbkgnaaGreat
namespace Go.Proofs.YtcbhlhmebbkgnaaGreat
open Go Go.TL
attribute [local irreducible] TR TO Then zaw RetK Sound zab Kf GG zaZ
def stW(F:Nat->List Auto->Nat)(q n:Nat)(s:Sta):Nat:=
 if n+1+wD q s.locals+wE q s.eqs+wT q s.unl+wT q s.unt<q then n+1+wD q s.locals+wE q s.eqs+wT q s.unl+wT q s.unt+F (q-(n+1+wD q s.locals+wE q s.eqs+wT q s.unl+wT q s.unt)) s.autos else n+1+wD q s.locals+wE q s.eqs+wT q s.unl+wT q s.unt
def wgA:Nat->Nat->List Auto->Nat
 | 0,_,_=>0
 | m+1,q,l=>wgs (fun n a=>wgs (stW (wgA m) q) q a.states n) q l l.length
theorem zeB{l:List Decl}(h:(zac l).w≤100000000):l.length≤100000000/\∀x∈l,(x.clock.map onT).length≤100000000/\x.name.length≤100000000:=by
 have h1:=zaq zah 3 l
 have h2:(zac l).w=(T.sl 3 (l.map zah)).w:=rfl
 refine⟨by omega,fun x hx=>?_⟩
 have h3:=za6 hx
 have h4:=zaq onT 3 x.clock
 rw[List.length_map]
 omega
theorem zor{l:List Equ}(h:(T.sl 7 (l.map equT)).w≤100000000):l.length≤100000000/\∀x∈l,(x.left.map T.s).length≤100000000:=by
 have h1:=zaq equT 7 l
 refine⟨by omega,fun x hx=>?_⟩
 have h3:=zaC (f:=equT) (sz:=7) hx
 have h4:=zbE (q:=x)
 rw[List.length_map]
 omega
theorem zst{l:List Ex}(h:(T.sl 6 (l.map exT)).w≤100000000):l.length≤100000000/\∀x∈l,wEx x≤1000000000:=by
 have h1:=zaq exT 6 l
 refine⟨by omega,fun x hx=>?_⟩
 have h3:=zaC (f:=exT) (sz:=6) hx
 have h4:=zep x
 omega
theorem zkU{l:List Tran}(h:(T.sl 8 (l.map zat)).w≤100000000):l.length≤100000000/\∀x∈l,wEx x.cond≤1000000000:=by
 have h1:=zaq zat 8 l
 refine⟨by omega,fun x hx=>?_⟩
 have h3:=zaC (f:=zat) (sz:=8) hx
 have h4:=zhG (t:=x)
 omega
theorem zuO{F:Nat->List Auto->Nat}{B q n:Nat}(hF:∀(q:Nat),q≤1500->∀l:List Auto,(T.sl 1 (l.map zaj)).w≤100000000->F q l≤B)(hB:1000000000≤B)(hq:q≤1500)(hn:n<q){s:Sta}(hs:(staT s).w≤100000000):stW F q n s≤B+2000:=by
 have w4:=zfd s
 have d:=zeB (l:=s.locals) (by omega)
 have e:=zor (l:=s.eqs) (by omega)
 have t1:=zkU (l:=s.unl) (by omega)
 have t2:=zkU (l:=s.unt) (by omega)
 have b1:=zmE hq d.1 d.2
 have b2:=zrv hq e.1 e.2
 have b3:=zrL hq t1.1 t1.2
 have b4:=zrL hq t2.1 t2.2
 unfold stW
 generalize wD q s.locals=a1 at*
 generalize wE q s.eqs=a2 at*
 generalize wT q s.unl=a3 at*
 generalize wT q s.unt=a4 at*
 split
 ·have:=hF (q-(n+1+a1+a2+a3+a4)) (by omega) s.autos (by omega)
  omega
 ·omega
theorem zqY{F:Nat->List Auto->Nat}{B q n:Nat}(hF:∀(q:Nat),q≤1500->∀l:List Auto,(T.sl 1 (l.map zaj)).w≤100000000->F q l≤B)(hB:1000000000≤B)(hq:q≤1500)(hn:n≤B){l:List Sta}(hs:∀s∈l,(staT s).w≤100000000):wgs (stW F q) q l n≤B+2000:=
 zdb l n (by omega) fun n hn s h=>zuO hF hB hq hn (hs s h)
theorem zp7:∀(m:Nat) (q:Nat),q≤1500->∀l:List Auto,(T.sl 1 (l.map zaj)).w≤100000000->wgA m q l≤1000000000+2000*m
 | 0,q,hq,l,hw=>by simp[wgA]
 | m+1,q,hq,l,hw=>by
   have h1:=zaq zaj 1 l
   obtain⟨B,hB⟩:∃B,B=1000000000+2000*(m+1):=⟨_,rfl⟩
   rw[<-hB]
   unfold wgA
   refine zdb l _ (by omega) fun n hn a ha=>?_
   have w1:=zaC (f:=zaj) (sz:=1) ha
   have w2:=zdn a
   have:=zqY (n:=n) (zp7 m) (by omega) hq (by omega) (l:=a.states) fun s hs=>by have:=zaC (f:=staT) (sz:=6) hs;omega
   omega
set_option maxHeartbeats 4000000 in
theorem zp2:∀(m:Nat) (l:List Auto),m≤100000000->(T.sl 1 (l.map zaj)).w≤m->∀q:Nat,1≤q->q≤1500->Pure Tryz.prog 44 [.t (.sl 1 (l.map zaj)),.i q] (.i (wgA m q l:Nat)):=by
 intro m
 induction m with
 | zero=>intro l _ h;have:=zaq zaj 1 l;omega
 | succ m ih0=>
   intro l hm8 hw q hq1 hq
   have hml:(l.map zaj).length=l.length:=List.length_map _
   have hll:=zaq zaj 1 l
   have ih:=fun l h=>ih0 l (by omega) h
   clear ih0
   have hF:=zp7 m
   rw[wgA]
   generalize wgA m=F at*
   have hsw:∀a∈l,∀s∈a.states,(staT s).w≤m:=fun a ha s hs=>by
    have w1:=zaC (f:=zaj) (sz:=1) ha
    have w2:=zdn a
    have w3:=zaC (f:=staT) (sz:=6) hs
    omega
   refine so Tryz.func44 ?_
   repeat' (first|refine wu ?_|exact wkc|intro hc|refine wk2 ?_ ?_|fail)
   refine TR.fin (id:=0) (EF:=[(5,.i (wgs (fun n (a:Auto)=>wgs (stW F q) q a.states n) q l l.length:Nat))]) (GF:=[]) (TR.zal l.length (fun _=>True) (fun k=>[(0,.t (.sl 1 (l.map zaj))),(1,.i q),(5,.i (wgs (fun n (a:Auto)=>wgs (stW F q) q a.states n) q (l.take k) l.length:Nat)),(6,.i k)]) (fun _=>[]) trivial (fun k hlt _=>?_) (fun _=>?_) ⟨rfl,rfl,by rw[<-hml];rfl,rfl,trivial⟩) ?_
   ·have hat:=zdL hlt
    have hak:=hsw _ (List.getElem_mem hlt)
    have hb:wgs (fun n (a:Auto)=>wgs (stW F q) q a.states n) q (l.take k) l.length≤1000000000+2000*m+2000:=zdb _ _ (by omega) fun n hn a ha=>zqY hF (by omega) hq (by omega) fun s hs=>by have:=hsw a (List.mem_of_mem_take ha) s hs;omega
    by_cases hn:wgs (fun n (a:Auto)=>wgs (stW F q) q a.states n) q (l.take k) l.length<q
    ·have hs:=zdA hlt hn
     generalize wgs (fun n (a:Auto)=>wgs (stW F q) q a.states n) q (l.take k) l.length=n at*
     have hln:l[k].states.length≤1000000000:=by
      have w1:=zaC (f:=zaj) (sz:=1) (List.getElem_mem hlt)
      have w2:=zdn l[k]
      have w3:=zaq staT 6 l[k].states
      omega
     generalize l[k]=a at*
     have hma:(a.states.map staT).length=a.states.length:=List.length_map _
     unfold zcg at hat
     repeat' (first|refine wu ?_|exact wkc|intro hc|refine wk2 ?_ ?_|fail)
     refine TR.fin (id:=2) (EF:=[(0,.t (.sl 1 (l.map zaj))),(1,.i q),(6,.i k),(5,.i (wgs (stW F q) q a.states n:Nat))]) (GF:=[]) (TR.zal a.states.length (fun _=>True) (fun j=>[(0,.t (.sl 1 (l.map zaj))),(1,.i q),(6,.i k),(5,.i (wgs (stW F q) q (a.states.take j) n:Nat)),(7,.i j)]) (fun _=>[]) trivial (fun j hlj _=>?_) (fun _=>?_)) ?_
     ·have hat2:=zfK hlj
      have hsk:=hak _ (List.getElem_mem hlj)
      have hb2:wgs (stW F q) q (a.states.take j) n≤1000000000+2000*m+2000:=zqY hF (by omega) hq (by omega) fun s hs=>by have:=hak s (List.mem_of_mem_take hs);omega
      by_cases hn2:wgs (stW F q) q (a.states.take j) n<q
      ·have hs2:=zdA hlj hn2
       generalize wgs (stW F q) q (a.states.take j) n=n2 at*
       generalize a.states[j]=s at*
       rw[stW.eq_1 F q n2 s]at hs2
       have w4:=zfd s
       have d:=zeB (l:=s.locals) (by omega)
       have e:=zor (l:=s.eqs) (by omega)
       have t1:=zkU (l:=s.unl) (by omega)
       have t2:=zkU (l:=s.unt) (by omega)
       have b1:=zmE hq d.1 d.2
       have b2:=zrv hq e.1 e.2
       have b3:=zrL hq t1.1 t1.2
       have b4:=zrL hq t2.1 t2.2
       have c1:=zhF q hq1 hq s.locals d.1 d.2
       have c2:=zoy q hq1 hq s.eqs e.1 e.2
       have c3:=zn0 q hq1 hq s.unl t1.1 t1.2
       have c4:=zn0 q hq1 hq s.unt t2.1 t2.2
       have hi:=ih s.autos (by omega)
       have hFs:=fun q' hq'=>hF q' hq' s.autos (by omega)
       clear ih hF hak hsw d e t1 t2 w4
       generalize wD q s.locals=a1 at*
       generalize wE q s.eqs=a2 at*
       generalize wT q s.unl=a3 at*
       generalize wT q s.unt=a4 at*
       unfold staC at hat2
       by_cases hn3:n2+1+a1+a2+a3+a4<q
       ·rw[if_pos hn3]at hs2
        have hi:=hi (q-(n2+1+a1+a2+a3+a4)) (by omega) (by omega)
        have hFs:=hFs (q-(n2+1+a1+a2+a3+a4)) (by omega)
        generalize F (q-(n2+1+a1+a2+a3+a4)) s.autos=fz at*
        rw[show((q-(n2+1+a1+a2+a3+a4):Nat):Int)=(q:Int)-((n2+1+a1+a2+a3+a4:Nat):Int) by omega]at hi
        repeat' (first|refine wkt ?_|refine wka ?_|refine rg [.i n2,.i (n2+1:Nat),.cp [.s s.name,zac s.locals,.sl 7 (s.eqs.map equT),.sl 1 (s.autos.map zaj),.sl 8 (s.unl.map zat),.sl 8 (s.unt.map zat)] 1,.t (zac s.locals),.i q,.i a1,.i (n2+1+a1:Nat),.cp [.s s.name,zac s.locals,.sl 7 (s.eqs.map equT),.sl 1 (s.autos.map zaj),.sl 8 (s.unl.map zat),.sl 8 (s.unt.map zat)] 2,.t (.sl 7 (s.eqs.map equT)),.i q,.i a2,.i (n2+1+a1+a2:Nat),.cp [.s s.name,zac s.locals,.sl 7 (s.eqs.map equT),.sl 1 (s.autos.map zaj),.sl 8 (s.unl.map zat),.sl 8 (s.unt.map zat)] 4,.t (.sl 8 (s.unl.map zat)),.i q,.i a3,.i (n2+1+a1+a2+a3:Nat),.cp [.s s.name,zac s.locals,.sl 7 (s.eqs.map equT),.sl 1 (s.autos.map zaj),.sl 8 (s.unl.map zat),.sl 8 (s.unt.map zat)] 5,.t (.sl 8 (s.unt.map zat)),.i q,.i a4,.i (n2+1+a1+a2+a3+a4:Nat),.i (n2+1+a1+a2+a3+a4:Nat)] ?_ ?_|refine wv c1 ?_|refine wv c2 ?_|refine wv c3 ?_|refine wv c4 ?_|refine wv hi ?_|exact trivial|exact And.intro rfl rfl|refine And.intro (fun H env=>?_) ?_|refine wk ?_|exact wkc|intro hc|refine wk2 ?_ ?_|fail)
        exact zab.zak hlj trivial ⟨rfl,rfl,rfl,by(try dsimp only);rw[hs2];rfl,rfl,trivial⟩
       ·rw[if_neg hn3]at hs2
        clear hi hFs
        repeat' (first|refine wkt ?_|refine wka ?_|refine rg [.i n2,.i (n2+1:Nat),.cp [.s s.name,zac s.locals,.sl 7 (s.eqs.map equT),.sl 1 (s.autos.map zaj),.sl 8 (s.unl.map zat),.sl 8 (s.unt.map zat)] 1,.t (zac s.locals),.i q,.i a1,.i (n2+1+a1:Nat),.cp [.s s.name,zac s.locals,.sl 7 (s.eqs.map equT),.sl 1 (s.autos.map zaj),.sl 8 (s.unl.map zat),.sl 8 (s.unt.map zat)] 2,.t (.sl 7 (s.eqs.map equT)),.i q,.i a2,.i (n2+1+a1+a2:Nat),.cp [.s s.name,zac s.locals,.sl 7 (s.eqs.map equT),.sl 1 (s.autos.map zaj),.sl 8 (s.unl.map zat),.sl 8 (s.unt.map zat)] 4,.t (.sl 8 (s.unl.map zat)),.i q,.i a3,.i (n2+1+a1+a2+a3:Nat),.cp [.s s.name,zac s.locals,.sl 7 (s.eqs.map equT),.sl 1 (s.autos.map zaj),.sl 8 (s.unl.map zat),.sl 8 (s.unt.map zat)] 5,.t (.sl 8 (s.unt.map zat)),.i q,.i a4,.i (n2+1+a1+a2+a3+a4:Nat),.i (n2+1+a1+a2+a3+a4:Nat)] ?_ ?_|refine wv c1 ?_|refine wv c2 ?_|refine wv c3 ?_|refine wv c4 ?_|exact trivial|exact And.intro rfl rfl|refine And.intro (fun H env=>?_) ?_|refine wk ?_|exact wkc|intro hc|refine wk2 ?_ ?_|fail)
        exact zab.zak hlj trivial ⟨rfl,rfl,rfl,by(try dsimp only);rw[hs2];rfl,rfl,trivial⟩
      ·have hs2:=zdx hn2
       generalize wgs (stW F q) q (a.states.take j) n=n2 at*
       rw[hs2]
       repeat' (first|refine wu ?_|exact wkc|intro hc|refine wk2 ?_ ?_|fail)
       exact⟨rfl,⟨rfl,rfl,rfl,rfl,trivial⟩,rfl⟩
     ·rw[List.take_length]
      repeat' (first|refine wu ?_|exact wkc|intro hc|refine wk2 ?_ ?_|fail)
      all_goals exact⟨rfl,⟨rfl,rfl,rfl,rfl,trivial⟩,rfl⟩
     ·repeat' (first|refine wu ?_|exact wkc|intro hc|refine wk2 ?_ ?_|fail)
      exact zab.zak hlt trivial ⟨rfl,rfl,by(try dsimp only);rw[hs];rfl,rfl,trivial⟩
    ·have hs:=zdx hn
     generalize wgs (fun n (a:Auto)=>wgs (stW F q) q a.states n) q (l.take k) l.length=n at*
     rw[hs]
     repeat' (first|refine wu ?_|exact wkc|intro hc|refine wk2 ?_ ?_|fail)
     exact⟨rfl,⟨rfl,trivial⟩,rfl⟩
   ·rw[List.take_length]
    repeat' (first|refine wu ?_|exact wkc|intro hc|refine wk2 ?_ ?_|fail)
    all_goals exact⟨rfl,⟨rfl,trivial⟩,rfl⟩
   ·repeat' (first|refine wu ?_|exact wkc|intro hc|refine wk2 ?_ ?_|fail)
    exact wkr
end Go.Proofs.YtcbhlhmebbkgnaaGreat
