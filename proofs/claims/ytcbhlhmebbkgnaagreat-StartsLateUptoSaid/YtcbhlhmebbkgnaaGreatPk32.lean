import Derived.Test.YtcbhlhmebbkgnaaGreatPk9
import Derived.Test.YtcbhlhmebbkgnaaGreatPk14
import Derived.Test.YtcbhlhmebbkgnaaGreatPk17
import Derived.Test.YtcbhlhmebbkgnaaGreatPk19
import Derived.Test.YtcbhlhmebbkgnaaGreatPk22
import Derived.Test.YtcbhlhmebbkgnaaGreatPk23
import Derived.Test.YtcbhlhmebbkgnaaGreatPk24
import Derived.Test.YtcbhlhmebbkgnaaGreatPk26
import Derived.Test.YtcbhlhmebbkgnaaGreatPk27
import Derived.Test.YtcbhlhmebbkgnaaGreatPk28
import Derived.Test.YtcbhlhmebbkgnaaGreatPk30
import Derived.Test.YtcbhlhmebbkgnaaGreatPk31
set_option linter.unusedSimpArgs false
set_option linter.unusedVariables false
namespace Go.Proofs.YtcbhlhmebbkgnaaGreat
open Go Go.TL
attribute [local irreducible] TR TO Then zaw RetK Sound zab Kf GG zaZ
structure ziz (p:Prog) (tags:List Str) (i:Nat) (seen:List (Int×Str×Int)):Prop where
 t:∀x,(zay seen 0 x).isSome=true ↔ x∈tags
 n:∀nm,(zay seen 1 nm=none/\nm ∉ (p.nodes.take i).map Nod.name)\/(∃k:Nat,zay seen 1 nm=some (k:Int)/\k<i/\∃n,p.nodes[k]?=some n/\(p.nodes.take i).find? (fun n=>decide (n.name=nm))=some n)
theorem zcF(a b:List (Int×Str×Int))(k:Int)(s:Str):zay (a++b) k s=(zay a k s).or (zay b k s):=by
 unfold zay
 rw[List.find?_append]
 cases List.find? (fun e=>decide (e.1=k/\e.2.1=s)) a <;> simp
theorem zcG(k v:Int)(s:Str)(j:Int)(x:Str):zay [(k,s,v)] j x=if k=j/\s=x then some v else none:=by
 unfold zay
 by_cases h:k=j/\s=x
 ·rw[if_pos h];simp[h]
 ·rw[if_neg h,List.find?_cons,decide_eq_false h];rfl
theorem zml{l:List Nod}{nm:Str}:l.find? (fun n=>decide (n.name=nm))=none ↔ nm ∉ l.map Nod.name:=by
 simp[List.find?_eq_none]
theorem zrm{l:List Nod}{nm:Str}{n:Nod}(h:l.find? (fun n=>decide (n.name=nm))=some n):nm∈l.map Nod.name:=by
 have h1:=List.mem_of_find?_eq_some h
 have h2:=List.find?_some h
 exact List.mem_map.2 ⟨n,h1,by simpa using h2⟩
theorem ziz.isSome{p:Prog}{tags:List Str}{i:Nat}{seen:List (Int×Str×Int)}(h:ziz p tags i seen)(nm:Str):(zay seen 1 nm).isSome=true ↔ nm∈(p.nodes.take i).map Nod.name:=by
 rcases h.n nm with ⟨h1,h2⟩|⟨k,h1,_,n,_,h4⟩
 ·rw[h1];simp only[Option.isSome_none,Bool.false_eq_true,false_iff];exact h2
 ·rw[h1];simp only[Option.isSome_some,true_iff];exact zrm h4
def zrl(p:Prog)(seen:List (Int×Str×Int))(node:Int):Prop:=∀nm,(zay seen 1 nm=none/\zdQ p node nm=none)\/(∃i,zay seen 1 nm=some i/\((i<node/\∃n,p.nodes[i.toNat]?=some n/\zdQ p node nm=some n)\/(¬i<node/\zdQ p node nm=none)))
theorem zs2{p:Prog}{seen:List (Int×Str×Int)}{node:Int}(hC:zrl p seen node){s:Plr}(hp:s.p=p)(hn:s.node=node){vis:List Str}(hv:∀x,x∈vis ↔ x∈s.vis)(left:Int)(x:Ex):oneS p seen node vis left x=zmv s left x:=by
 unfold oneS zmv
 have hv':=hv x.name
 rw[hp,hn]
 have hcall:zkM p seen node left x=(match zdQ p node x.name with
  | none=>6
  | some n=>if(x.args.length:Int)≠n.ins.length+x.v.1\/(n.outs.length:Int)≠left then 9 else 0):=by
  unfold zkM
  rcases hC x.name with ⟨h1,h2⟩|⟨i,h1,⟨h2,n,h3,h4⟩|⟨h2,h3⟩⟩
  ·rw[h1,h2]
  ·rw[h1,h4]
   simp only[if_pos h2,h3]
   by_cases a1:(x.args.length:Int)≠n.ins.length+x.v.1
   ·rw[if_pos a1,if_pos (.inl a1)]
   ·by_cases a2:(n.outs.length:Int)≠left
    ·rw[if_neg a1,if_pos a2,if_pos (.inr a2)]
    ·rw[if_neg a1,if_neg a2,if_neg (fun h=>h.elim a1 a2)]
  ·rw[h1,h3]
   simp only[if_neg h2]
 rw[hcall]
 by_cases hk:x.kind.1=2\/x.kind.1=8\/x.kind.1=9
 ·rw[if_pos hk]
  by_cases hm:x.name∈vis
  ·rw[if_pos hm,if_neg (fun h=>h.2 (hv'.1 hm)),if_neg (by rcases hk with h|h|h <;> rw[h] <;> decide)]
  ·rw[if_neg hm,if_pos ⟨hk,fun h=>hm (hv'.2 h)⟩]
 ·rw[if_neg hk]
  exact(if_neg (show ¬((x.kind.1=2\/x.kind.1=8\/x.kind.1=9)/\x.name ∉ s.vis) from fun h=>hk h.1)).symm
theorem znq{p:Prog}{seen:List (Int×Str×Int)}{node:Int}(hC:zrl p seen node){s:Plr}(hp:s.p=p)(hn:s.node=node){vis:List Str}(hv:∀x,x∈vis ↔ x∈s.vis)(left:Int)(e:Ex):zc1 p seen node vis left e=zbf s left e:=by
 unfold zc1 zbf
 rw[zs2 hC hp hn hv,show oneS p seen node vis 1=zmv s 1 from funext fun x=>zs2 hC hp hn hv 1 x]
theorem zls{A B X:Type}{f:A->X->A×Int}{g:B->X->B×Int}(R:A->B->Prop):∀(l:List X),(∀x∈l,∀a b,R a b->(f a x).2=(g b x).2/\((g b x).2=0->R (f a x).1 (g b x).1))->∀a b,R a b->zgb f a l=zgb g b l
 | [],_,a,b,h=>rfl
 | x::l,hs,a,b,h=>by
   obtain⟨h1,h2⟩:=hs x (by simp) a b h
   simp only[zgb]
   by_cases h0:(g b x).2=0
   ·rw[if_pos h0,if_pos (h1.trans h0),zls R l (fun y hy=>hs y (by simp[hy])) _ _ (h2 h0)]
   ·rw[if_neg h0,if_neg (by rw[h1];exact h0)]
theorem zl0(V:List Str)(a b:List Decl):zbn V (a++b)=orE (zbn V a) (zbn V b):=by
 unfold zbn
 rw[zaL];rfl
theorem ziH{V:List Str}:∀ {a:List Decl},(∀d∈a,d.clock=[])->zbn V a=0
 | [],_=>rfl
 | d::a,h=>by
   unfold zbn
   rw[zaa,h d (by simp)]
   exact ziH (V:=V) (a:=a) fun d hd=>h d (by simp[hd])
set_option maxHeartbeats 1000000 in
theorem ztl {p:Prog} {tags:List Str} {i:Nat} {seen:List (Int×Str×Int)} (h:ziz p tags i seen) {n:Nod} (hports:∀d∈n.ins++n.outs,d.clock=[]):(zce p seen i n).2=(nodR p i tags n).2/\((nodR p i tags n).2≠0->(zce p seen i n).1=(nodR p i tags n).1):=by
 unfold zce nodR
 by_cases hd:n.name∈(p.nodes.take i).map Nod.name
 ·rw[if_pos hd,if_pos ((h.isSome _).2 hd)];exact⟨rfl,fun _=>rfl⟩
 rw[if_neg hd,if_neg (fun hh=>hd ((h.isSome _).1 hh))]
 have hC:zrl p (seen++[(1,n.name,(i:Int))]) i:=by
  intro nm
  rw[zcF,zcG]
  have hcr:zdQ p (i:Int) nm=(p.nodes.take i).find? (fun n=>decide (n.name=nm)):=rfl
  rcases h.n nm with ⟨h1,h2⟩|⟨k,h1,h2,m,h3,h4⟩
  ·rw[h1,hcr,zml.2 h2]
   by_cases he:n.name=nm
   ·rw[if_pos ⟨rfl,he⟩];exact .inr ⟨i,rfl,.inr ⟨by omega,rfl⟩⟩
   ·rw[if_neg (fun hh=>he hh.2)];exact .inl ⟨rfl,rfl⟩
  ·rw[h1,hcr,h4];exact .inr ⟨k,rfl,.inl ⟨by omega,m,h3,rfl⟩⟩
 have ht:∀x,(zay (seen++[(1,n.name,(i:Int))]) 0 x).isSome=true ↔ x∈tags:=by
  intro x
  rw[zcF,zcG,if_neg (by rintro⟨h,_⟩;cases h),Option.or_none]
  exact h.t x
 generalize seen++[(1,n.name,(i:Int))]=seen' at*
 unfold zpz
 simp only[]
 obtain⟨d1,d2⟩:=zoG ht [] (zao n)
 have hsam:∀V,zbn V (zao n)=zbn V n.locals:=fun V=>by
  unfold zao
  rw[zl0,zl0,ziH (fun d hd=>hports d (by simp[hd])),ziH (fun d hd=>hports d (by simp[hd])),List.append_nil]
  rfl
 have hdR:(zbq [] tags (zao n)).2=orE (zad (za1 tags) [] (zao n)).2 (zbn (zad (za1 tags) [] (zao n)).1 n.locals)/\((zbq [] tags (zao n)).2=0->(zbq [] tags (zao n)).1=(zad (za1 tags) [] (zao n)).1):=by
  unfold zbq
  rw[hsam]
  split
  ·rename_i h0;exact⟨by simp only[orE,if_neg h0],fun hh=>absurd hh h0⟩
  ·rename_i h0
   have h0':=Decidable.not_not.1 h0
   split
   ·rename_i h1;exact⟨by simp only[orE,h0',if_true],fun hh=>absurd hh h1⟩
   ·rename_i h1;exact⟨by simp only[orE,h0',if_true];exact(Decidable.not_not.1 h1).symm,fun _=>rfl⟩
 unfold zif
 generalize zad (zbz seen' []) lv0 (zao n)=r1 at*
 generalize zad (za1 tags) [] (zao n)=q1 at*
 generalize zbq [] tags (zao n)=Q1 at*
 obtain⟨hd1,hd2⟩:=hdR
 by_cases z1:q1.2=0
 case neg=>
  have e2:Q1.2=q1.2:=by rw[hd1];simp only[orE,if_neg z1]
  rw[if_pos (show r1.2≠0 by rw[d1];exact z1),if_pos (show Q1.2≠0 by rw[e2];exact z1)]
  exact⟨d1.trans e2.symm,fun _=>rfl⟩
 obtain⟨v1,v2,v3⟩:=d2 z1
 rw[List.nil_append]at v1
 rw[if_neg (show ¬r1.2≠0 by rw[d1,z1];decide),<-v1]
 by_cases z2:zbn q1.1 n.locals=0
 case neg=>
  have e2:Q1.2=zbn q1.1 n.locals:=by rw[hd1];simp only[orE,z1,if_true]
  rw[if_pos z2,if_pos (show Q1.2≠0 by rw[e2];exact z2)]
  exact⟨e2.symm,fun _=>rfl⟩
 have eQ:Q1.2=0:=by rw[hd1];simp only[orE,z1,if_true];exact z2
 have hQ1:=hd2 eQ
 rw[if_neg (show ¬zbn q1.1 n.locals≠0 by simp[z2]),if_neg (show ¬Q1.2≠0 by simp[eQ]),hQ1]
 have hE:∀vis left e,zc1 p seen' i vis left e=zbf ((⟨p,i,q1.1,n.ins.map Decl.name,tags⟩:Plr).at vis) left e:=fun vis left e=>znq hC (s:=(⟨p,i,q1.1,n.ins.map Decl.name,tags⟩:Plr).at vis) rfl rfl (fun x=>Iff.rfl) left e
 have hI:Inv ⟨p,i,q1.1,n.ins.map Decl.name,tags⟩ [] ((n.ins.map Decl.name).foldl ins []) [] [] r1.1:=⟨by rw[List.nil_append];exact v1,fun y=>by
  rw[zeZ,v2];simp,by rw[v3];rfl,fun y=>by rw[v2,v3],by rw[v3];exact List.nodup_nil,fun y hy=>by rw[v3]at hy;cases hy⟩
 have hclA:zfg p seen' i n.ins n.assume=zaa (zbf ⟨p,i,n.ins.map Decl.name,n.ins.map Decl.name,tags⟩ 1) n.assume:=by
  unfold zfg
  congr 1;funext e
  exact znq hC rfl rfl (fun x=>by unfold seeL;rw[zeZ];simp) 1 e
 have hclE:zfg p seen' i (n.ins++n.outs) n.ensure=zaa (zbf ⟨p,i,n.ins.map Decl.name++n.outs.map Decl.name,n.ins.map Decl.name,tags⟩ 1) n.ensure:=by
  unfold zfg
  congr 1;funext e
  exact znq hC rfl rfl (fun x=>by unfold seeL;rw[zeZ];simp) 1 e
 rw[hclA,hclE]
 have hT:(⟨p,i,q1.1,n.ins.map Decl.name,tags⟩:Plr).tags=tags:=rfl
 generalize (⟨p,i,q1.1,n.ins.map Decl.name,tags⟩:Plr)=s at*
 have hstep:∀x∈n.eqs,∀(a':Lv) (d:List Str),Inv s [] ((n.ins.map Decl.name).foldl ins []) [] d a'->(equS p seen' i [] ((n.ins.map Decl.name).foldl ins []) a' x).2=(equR s d x).2/\((equR s d x).2=0->Inv s [] ((n.ins.map Decl.name).foldl ins []) [] (equR s d x).1 (equS p seen' i [] ((n.ins.map Decl.name).foldl ins []) a' x).1):=fun u _ b d hb=>zrn hE hb u
 obtain⟨f1,f2⟩:=zdj (fun(a':Lv) (d:List Str)=>Inv s [] ((n.ins.map Decl.name).foldl ins []) [] d a') n.eqs hstep r1.1 [] hI
 have f3:=zls (fun(a':Lv) (d:List Str)=>Inv s [] ((n.ins.map Decl.name).foldl ins []) [] d a') n.eqs hstep r1.1 [] hI
 rw[f3]
 generalize zgb (equR s) [] n.eqs=N at*
 generalize zad (equS p seen' i [] ((n.ins.map Decl.name).foldl ins [])) r1.1 n.eqs=r2 at*
 generalize zad (equR s) [] n.eqs=q2 at*
 by_cases z3:q2.2=0
 case neg=>
  rw[if_pos (show r2.2≠0 by rw[f1];exact z3),if_pos z3]
  exact⟨f1,fun _=>rfl⟩
 rw[if_neg (show ¬r2.2≠0 by rw[f1,z3];decide),if_neg (show ¬q2.2≠0 by simp[z3])]
 obtain⟨k1,k2⟩:=zdj (fun(a':Lv) (d:List Str)=>Inv s [] ((n.ins.map Decl.name).foldl ins []) [] d a') n.autos (f:=zcx p seen' i 3 [] ((n.ins.map Decl.name).foldl ins [])) (g:=autF (autR 3) s) (fun A _ b d hb=>zqc 3 hE (fun x=>by rw[hT];exact ht x) hb A) r2.1 q2.1 (f2 z3)
 generalize zad (zcx p seen' i 3 [] ((n.ins.map Decl.name).foldl ins [])) r2.1 n.autos=r3 at*
 generalize zad (autF (autR 3) s) q2.1 n.autos=q3 at*
 by_cases z4:q3.2=0
 case neg=>
  rw[if_pos z4]
  exact⟨by simp only[orE,if_neg (show ¬r3.2=0 from fun hh=>z4 (k1.symm.trans hh))];exact k1,fun _=>rfl⟩
 rw[if_neg (show ¬q3.2≠0 by simp[z4])]
 have e4:r3.2=0:=k1.trans z4
 have hI3:=k2 z4
 generalize zaa (zbf ⟨p,i,n.ins.map Decl.name,n.ins.map Decl.name,tags⟩ 1) n.assume=cA at*
 generalize zaa (zbf ⟨p,i,n.ins.map Decl.name++n.outs.map Decl.name,n.ins.map Decl.name,tags⟩ 1) n.ensure=cE at*
 by_cases z5:cA=0
 case neg=>
  rw[if_pos z5]
  exact⟨by simp only[orE,e4,if_true,if_neg z5],fun _=>rfl⟩
 rw[if_neg (show ¬cA≠0 by simp[z5])]
 by_cases z6:cE=0
 case neg=>
  rw[if_pos z6]
  exact⟨by simp only[orE,e4,z5,if_true,if_neg z6],fun _=>rfl⟩
 rw[if_neg (show ¬cE≠0 by simp[z6])]
 rw[ziC,List.map_append,zov (b:=r3.1.done) (c:=q3.1) (fun x=>by rw[hI3.dd x,hI3.dfs];rfl)]
 by_cases z7:wo (n.outs.map Decl.name++n.locals.map Decl.name) q3.1=[]
 ·simp only[ne_eq,z7,not_true_eq_false,if_true,if_false]
  exact⟨by simp only[orE,e4,z5,z6,if_true],fun hh=>hh.elim⟩
 ·simp only[ne_eq,z7,not_false_eq_true,if_true,if_false]
  exact⟨by simp only[orE,e4,z5,z6,if_true],fun _=>trivial⟩
theorem ziz.next{p:Prog}{tags:List Str}{i:Nat}{seen:List (Int×Str×Int)}(h:ziz p tags i seen){n:Nod}(hi:p.nodes[i]?=some n)(hd:n.name ∉ (p.nodes.take i).map Nod.name):ziz p tags (i+1) (seen++[(1,n.name,(i:Int))]):=by
 have htk:p.nodes.take (i+1)=p.nodes.take i++[n]:=by rw[List.take_add_one,hi];rfl
 refine⟨fun x=>?_,fun nm=>?_⟩
 ·rw[zcF,zcG,if_neg (by rintro⟨h,_⟩;cases h),Option.or_none]
  exact h.t x
 ·rw[zcF,zcG,htk,List.find?_append]
  rcases h.n nm with ⟨h1,h2⟩|⟨k,h1,h2,m,h3,h4⟩
  ·by_cases he:n.name=nm
   ·refine .inr ⟨i,by rw[h1,if_pos ⟨rfl,he⟩];rfl,by omega,n,hi,?_⟩
    rw[zml.2 h2]
    simp[List.find?_cons,he]
   ·refine .inl ⟨by rw[h1,if_neg (fun hh=>he hh.2)];rfl,?_⟩
    rw[List.map_append]
    simp only[List.mem_append,not_or]
    refine⟨h2,?_⟩
    simp only[List.map_cons,List.map_nil,List.mem_singleton]
    exact fun e=>he e.symm
  ·exact .inr ⟨k,by rw[h1];rfl,by omega,m,h3,by rw[h4];rfl⟩
theorem zn8{p:Prog}{tags:List Str}(hports:∀n∈p.nodes,∀d∈n.ins++n.outs,d.clock=[]):∀(l:List Nod) (b:Nat) (seen:List (Int×Str×Int)),p.nodes.drop b=l->ziz p tags b seen->(if(zad (nodF p) seen (l.zipIdx b)).2=0 then((0,0),0) else(zeH p seen (l.zipIdx b),(zad (nodF p) seen (l.zipIdx b)).2))=zfI p tags b l
 | [],b,seen,_,_=>rfl
 | n::l,b,seen,hl,h=>by
   have hi:p.nodes[b]?=some n:=by
    have:(p.nodes.drop b)[0]?=some n:=by rw[hl];rfl
    rw[List.getElem?_drop]at this;simpa using this
   have hl':p.nodes.drop (b+1)=l:=by
    rw[<-List.drop_drop,hl];rfl
   obtain⟨h1,h2⟩:=ztl h (n:=n) (hports n (List.mem_of_getElem? hi))
   rw[List.zipIdx_cons,zad,zeH,zfI]
   have hF:(nodF p seen (n,b)).2=(nodR p b tags n).2:=h1
   rw[hF]
   by_cases h0:(nodR p b tags n).2=0
   ·rw[if_pos h0,if_pos h0,if_pos h0]
    have hd:n.name ∉ (p.nodes.take b).map Nod.name:=fun hh=>by
     unfold nodR at h0
     rw[if_pos hh]at h0;cases h0
    exact zn8 hports l (b+1) _ hl' (h.next hi hd)
   ·rw[if_neg h0,if_neg h0,if_neg h0,hF,if_neg h0,h2 h0]
structure EnAt (seen:List (Int×Str×Int)) (st:List Str×List Str):Prop where
 e:∀x,(zay seen 2 x).isSome=true ↔ x∈st.1
 t:∀x,(zay seen 0 x).isSome=true ↔ x∈st.2
 n:∀x,zay seen 1 x=none
theorem zqZ(k:Int)(en:List Str):∀(l:List Str) (seen:List (Int×Str×Int)) (tg:List Str),EnAt seen (en,tg)->(zad addF seen (l.map fun s=>((0:Int),s,k))).2=(zad zcd tg l).2/\((zad zcd tg l).2=0->EnAt (zad addF seen (l.map fun s=>((0:Int),s,k))).1 (en,(zad zcd tg l).1))
 | [],seen,tg,h=>⟨rfl,fun _=>h⟩
 | s::l,seen,tg,h=>by
   simp only[List.map_cons,zad]
   have ht:(zay seen 0 s).isSome=true ↔ s∈tg:=h.t s
   by_cases hs:s∈tg
   ·have e1:(addF seen (0,s,k)).2=7:=if_pos (ht.2 hs)
    have e2:(zcd tg s).2=7:=if_pos hs
    rw[if_neg (by rw[e1];decide),if_neg (by rw[e2];decide),e1,e2]
    exact⟨rfl,fun hh=>absurd hh (by decide)⟩
   ·have e1:(addF seen (0,s,k)).2=0:=if_neg (fun hh=>hs (ht.1 hh))
    have e2:(zcd tg s).2=0:=if_neg hs
    rw[if_pos e1,if_pos e2]
    refine zqZ k en l _ _ ⟨fun x=>?_,fun x=>?_,fun x=>?_⟩
    ·show(zay (seen++[(0,s,k)]) 2 x).isSome=true ↔ _
     rw[zcF,zcG,if_neg (by rintro⟨h,_⟩;cases h),Option.or_none];exact h.e x
    ·show(zay (seen++[(0,s,k)]) 0 x).isSome=true ↔ x∈tg++[s]
     rw[zcF,zcG]
     have:=h.t x
     simp only[List.mem_append,List.mem_singleton,Option.isSome_or,Bool.or_eq_true]
     rw[this]
     by_cases hx:s=x
     ·simp[hx]
     ·simp only[hx,and_false,if_false,Option.isSome_none,Bool.false_eq_true,or_false]
      exact⟨.inl,fun h=>h.elim id (fun e=>absurd e.symm hx)⟩
    ·show zay (seen++[(0,s,k)]) 1 x=none
     rw[zcF,zcG,if_neg (by rintro⟨h,_⟩;cases h),Option.or_none];exact h.n x
theorem zs7:∀(l:List En) (b:Nat) (seen:List (Int×Str×Int)) (st:List Str×List Str),EnAt seen st->(zad enF seen (l.zipIdx b)).2=(zad zdN st l).2/\((zad zdN st l).2=0->EnAt (zad enF seen (l.zipIdx b)).1 (zad zdN st l).1)
 | [],b,seen,st,h=>⟨rfl,fun _=>h⟩
 | u::l,b,seen,st,h=>by
   rw[List.zipIdx_cons]
   simp only[zad]
   have he:=h.e u.name
   have key:(enF seen (u,b)).2=(zdN st u).2/\((zdN st u).2=0->EnAt (enF seen (u,b)).1 (zdN st u).1):=by
    show(zad addF seen ((2,u.name,(b:Int))::u.tags.map fun s=>((0:Int),s,(b:Int)))).2=(if u.name∈st.1 then 7 else(zad zcd st.2 u.tags).2)/\((if u.name∈st.1 then 7 else(zad zcd st.2 u.tags).2)=0->EnAt (zad addF seen ((2,u.name,(b:Int))::u.tags.map fun s=>((0:Int),s,(b:Int)))).1 (st.1++[u.name],(zad zcd st.2 u.tags).1))
    simp only[zad]
    by_cases hs:u.name∈st.1
    ·have e1:(addF seen (2,u.name,(b:Int))).2=7:=if_pos (he.2 hs)
     rw[if_neg (by rw[e1];decide),if_pos hs,e1]
     exact⟨rfl,fun hh=>absurd hh (by decide)⟩
    ·have e1:(addF seen (2,u.name,(b:Int))).2=0:=if_neg (fun hh=>hs (he.1 hh))
     rw[if_pos e1,if_neg hs]
     refine zqZ b (st.1++[u.name]) u.tags _ st.2 ⟨fun x=>?_,fun x=>?_,fun x=>?_⟩
     ·show(zay (seen++[(2,u.name,(b:Int))]) 2 x).isSome=true ↔ x∈st.1++[u.name]
      rw[zcF,zcG]
      have:=h.e x
      simp only[List.mem_append,List.mem_singleton,Option.isSome_or,Bool.or_eq_true]
      rw[this]
      by_cases hx:u.name=x
      ·simp[hx]
      ·simp only[hx,and_false,if_false,Option.isSome_none,Bool.false_eq_true,or_false]
       exact⟨.inl,fun h=>h.elim id (fun e=>absurd e.symm hx)⟩
     ·show(zay (seen++[(2,u.name,(b:Int))]) 0 x).isSome=true ↔ _
      rw[zcF,zcG,if_neg (by rintro⟨h,_⟩;cases h),Option.or_none];exact h.t x
     ·show zay (seen++[(2,u.name,(b:Int))]) 1 x=none
      rw[zcF,zcG,if_neg (by rintro⟨h,_⟩;cases h),Option.or_none];exact h.n x
   by_cases h0:(zdN st u).2=0
   ·rw[if_pos h0,if_pos (key.1.trans h0)]
    exact zs7 l (b+1) _ _ (key.2 h0)
   ·rw[if_neg h0,if_neg (by rw[key.1];exact h0)]
    exact⟨key.1,fun hh=>absurd hh h0⟩
theorem zol(p:Prog):zfb p=zbx p:=by
 unfold zfb zbx
 by_cases hs:(zaR p).2=0
 case neg=>rw[if_pos hs,if_pos hs]
 rw[if_neg (show ¬(zaR p).2≠0 by simp[hs]),if_neg (show ¬(zaR p).2≠0 by simp[hs])]
 obtain⟨h1,h2⟩:=zs7 p.enums 0 [] ([],[]) ⟨fun x=>by simp[zay],fun x=>by simp[zay],fun x=>by simp[zay]⟩
 rw[h1]
 by_cases h0:(zad zdN ([],[]) p.enums).2=0
 case neg=>rw[if_pos h0,if_pos h0]
 rw[if_neg (show ¬(zad zdN ([],[]) p.enums).2≠0 by simp[h0]),if_neg (show ¬(zad zdN ([],[]) p.enums).2≠0 by simp[h0])]
 have h2:=h2 h0
 exact(zn8 (fun n hn=>(zlt hs n hn).ports) p.nodes 0 _ rfl ⟨h2.t,fun nm=>.inl ⟨h2.n nm,by simp⟩⟩).symm
theorem zqO(p:Prog):zgv p=zbi p:=by
 unfold zgv zbi
 rw[zol]
def Rg(x:Int):Prop:=-1≤x/\x≤1000000000
theorem zeV{α:Type}(g:α->Int):∀(l:List α),0≤(za9 g l).1/\(za9 g l).1≤l.length
 | []=>by simp[za9]
 | x::l=>by
   have:=zeV g l
   rw[za9]
   simp only[List.length_cons]
   split
   ·split
    ·simp only;omega
    ·simp only;omega
   ·simp only;omega
theorem zn2{α β:Type}(f:β->α->β×Int):∀(l:List α) (a:β),0≤zgb f a l/\zgb f a l≤l.length
 | [],_=>by simp[zgb]
 | x::l,a=>by
   have:=zn2 f l (f a x).1
   rw[zgb]
   simp only[List.length_cons]
   split <;> omega
theorem zsf(es:List En)(n:Nod)(h:n.eqs.length≤1000000000):Rg (zbt es n).1:=by
 have:=zeV (equE es) n.eqs
 unfold zbt Rg
 split
 ·simp only;omega
 ·split
  ·omega
  ·simp only;omega
theorem zrw(p:Prog)(seen:List (Int×Str×Int))(i:Int)(n:Nod)(h:n.eqs.length≤1000000000):Rg (zce p seen i n).1:=by
 unfold zce Rg
 split
 ·simp only;omega
 ·unfold zpz
  simp only[]
  split
  ·simp only;omega
  ·split
   ·simp only;omega
   ·split
    ·simp only
     have:=zn2 (equS p (seen++[(1,n.name,i)]) i [] ((n.ins.map Decl.name).foldl ins [])) n.eqs (zif (seen++[(1,n.name,i)]) [] lv0 (zao n)).1
     omega
    ·simp only;omega
theorem zqg(w:Plc)(n:Nod)(h:n.eqs.length≤1000000000):Rg (zga w n).1:=by
 have:=zeV (eqnT w) n.eqs
 unfold zga Rg
 split
 ·omega
 ·simp only;omega
theorem znZ(p:Prog):∀(l:List (Nod×Nat)) (st:List (Int×Str×Int)),(∀x∈l,x.2≤1000000000/\x.1.eqs.length≤1000000000)->Rg (zeH p st l).1/\Rg (zeH p st l).2
 | [],_,_=>by unfold zeH Rg;decide
 | x::l,st,h=>by
   rw[zeH]
   split
   ·exact znZ p l _ fun y hy=>h y (by simp[hy])
   ·have:=h x (by simp)
    exact⟨by unfold Rg;simp only;omega,zrw p _ _ _ this.2⟩
theorem zlx(p:Prog):∀(l:List (Nod×Nat)),(∀x∈l,x.2≤1000000000/\x.1.eqs.length≤1000000000)->Rg (zcO p l).1.1/\Rg (zcO p l).1.2
 | [],_=>by unfold zcO Rg;decide
 | x::l,h=>by
   rw[zcO]
   split
   ·exact zlx p l fun y hy=>h y (by simp[hy])
   ·have:=h x (by simp)
    exact⟨by unfold Rg;simp only;omega,zqg _ _ this.2⟩
theorem zqJ{p:Prog}(hl:p.nodes.length≤1000000000)(hn:∀n∈p.nodes,n.eqs.length≤1000000000):Rg (zbi p).1.1/\Rg (zbi p).1.2:=by
 have hz:∀x∈p.nodes.zipIdx,x.2≤1000000000/\x.1.eqs.length≤1000000000:=by
  intro x hx
  have h1:=List.mem_zipIdx hx
  have h3:=h1.2.2
  refine⟨by omega,?_⟩
  rw[h3]
  exact hn _ (List.getElem_mem _)
 have hsh:Rg (zaR p).1.1/\Rg (zaR p).1.2:=by
  unfold zaR
  split
  ·unfold Rg;simp only;omega
  ·split
   ·unfold Rg;simp only;omega
   ·split
    ·unfold Rg;simp only;omega
    ·simp only[]
     have:=zeV (fun n=>(zbt p.enums n).2) p.nodes
     refine⟨by unfold Rg;omega,?_⟩
     cases hg:p.nodes[(za9 (fun n=>(zbt p.enums n).2) p.nodes).1.toNat]? with
     | none=>simp[Rg]
     | some n=>exact zsf _ _ (hn n (List.mem_of_getElem? hg))
 have hsc:Rg (zbx p).1.1/\Rg (zbx p).1.2:=by
  unfold zbx
  split
  ·exact hsh
  ·split
   ·unfold Rg;simp only;omega
   ·split
    ·unfold Rg;simp only;omega
    ·exact znZ p _ _ hz
 unfold zbi
 split
 ·exact hsc
 ·exact zlx p _ hz
set_option maxHeartbeats 8000000 in
theorem zfH (p:Prog) (hw:(T.ag (zav p)).w≤100000000):Pure Tryz.prog 28 [.t (.ag (zav p))] (.tup [.t (.ag [T.i (zaF p).1.1,T.i (zaF p).1.2]),.i (zaF p).2]):=by
 obtain⟨hP,hln,hpl⟩:=zbr hw
 have hml:(p.nodes.map nodT).length=p.nodes.length:=List.length_map _
 have hty:=zkG p hw (fun h=>by
  rw[zol]at h
  unfold zbx at h
  exact Classical.byContradiction fun hh=>by rw[if_pos hh]at h;exact hh h)
 rw[zqO]at hty
 have hpn:=zeU p (by omega)
 have hz:zaF p=zaF p:=rfl
 conv at hz=>rhs;unfold zaF
 generalize zaF p=z at hz⊢
 have hnk:=fun h n hn=>znE (p:=p) h hn (hln n hn)
 have hnr:=fun h k hk hk63=>@zt3 p h k hk hk63
 generalize zbi p=t at*
 obtain⟨⟨t1,t2⟩,t3⟩:=t
 simp only at hz hty hnk hnr
 have hpc:zav p=[.sl 2 (p.enums.map enT),zag p.nodes]:=rfl
 rw[hpc]at*
 generalize zcW p=pl at*
 cases pl with
 | false=>
   rw[if_pos rfl]at hz
   subst hz
   refine so Tryz.func28 ?_
   repeat' (first|refine wkb ?_|refine wv hpn ?_|refine wk ?_|exact wkc|intro hc|refine wk2 ?_ ?_|fail)
   exact wkr
 | true=>
 rw[if_neg (by decide)]at hz
 by_cases h3:t3=0
 ·rw[if_neg (by simp[h3])]at hz
  replace hnk:=hnk h3
  replace hnr:=hnr h3
  subst h3
  refine so Tryz.func28 ?_
  refine wkb ?_
  refine wk ?_
  repeat' (first|refine wkt ?_|refine wka ?_|refine wk ?_|exact wkc|intro hc|refine wk2 ?_ ?_|refine wv hpn ?_|refine wv hty ?_|fail)
  refine TR.zal p.nodes.length (fun k=>zbV 0 p.nodes=zbV k (p.nodes.drop k)) (fun k=>[(1,.cp [.sl 2 (p.enums.map enT),zag p.nodes] 0),(2,.ref 0 0),(6,.i k)]) (fun _=>[.cells [.i 0,.i 0]]) rfl (fun k hlt ha=>?_) (fun ha=>?_)
  ·have hx:=zb7 hlt
   have hmem:=List.getElem_mem hlt
   have hk63:(k:Int)≤9223372036854775807:=by omega
   rw[zhe hlt]at ha
   have hK:=hnk _ hmem
   have hR:=hnr k hlt hk63
   have hv:=zc8 p.nodes[k] (hP.each _ hmem)
   clear hnk hnr
   have hd:=zht (zao p.nodes[k]) hK.len hK.clk p.nodes[k].locals hK.le.1 (fun d hd=>hK.clk d (by simp[zao,hd])) hR.decl
   have heq:=fun u (hu:u∈p.nodes[k].eqs)=>znv (zao p.nodes[k]) hK.len hK.clk hR.len u (hK.eqs u hu).1 (hK.eqs u hu).2.1 (hK.eqs u hu).2.2.1 (hK.eqs u hu).2.2.2 (hR.fit u hu).1 (hR.left u hu) (hR.fit u hu).2
   have ca:=zff (zao p.nodes[k]) hK.len hK.clk p.nodes[k].assume hK.le.2.2.1 (fun e he=>⟨hK.exs e (by simp[he]),hR.cl e (by simp[he])⟩)
   have ce:=zff (zao p.nodes[k]) hK.len hK.clk p.nodes[k].ensure hK.le.2.2.2 (fun e he=>⟨hK.exs e (by simp[he]),hR.cl e (by simp[he])⟩)
   have le2:=hK.le.2.1
   clear hK hR
   have hzn:zdk p.nodes[k]=zdk p.nodes[k]:=rfl
   conv at hzn=>rhs;unfold zdk
   rw[zaL]at hzn
   generalize zdk p.nodes[k]=r at*
   generalize zdg (zao p.nodes[k]) p.nodes[k].locals=zd at*
   generalize zjb (zao p.nodes[k])=EQ at*
   generalize zaa (fun e=>zcu (zao p.nodes[k]) e []) p.nodes[k].assume=z1 at*
   generalize zaa (fun e=>zcu (zao p.nodes[k]) e []) p.nodes[k].ensure=z2 at*
   generalize zao p.nodes[k]=vars at*
   generalize p.nodes[k]=n at*
   have hme:(n.eqs.map equT).length=n.eqs.length:=List.length_map _
   unfold nodC at*
   cases zd with
   | false=>
     rw[if_pos rfl]at hzn
     subst hzn
     simp only at ha
     rw[if_neg (by decide)]at ha
     rw[ha]at hz
     subst hz
     repeat' (first|refine wkt ?_|refine wka ?_|refine wk ?_|exact wkc|intro hc|refine wk2 ?_ ?_|refine wv hv ?_|refine wv hd ?_|fail)
     exact wkr
   | true=>
   rw[if_neg (by decide)]at hzn
   repeat' (first|refine wkt ?_|refine wka ?_|refine wk ?_|exact wkc|intro hc|refine wk2 ?_ ?_|refine wv hv ?_|refine wv hd ?_|fail)
   refine TR.zal n.eqs.length (fun j=>zaa EQ (n.eqs.take j)=0) (fun j=>[(1,.cp [.sl 2 (p.enums.map enT),zag p.nodes] 0),(2,.ref 0 0),(6,.i k),(7,.cp (nC n) 0),(8,.t (zac vars)),(9,.i j)]) (fun _=>[.cells [.i 0,.i 0]]) rfl (fun j hlj hj=>?_) (fun hj=>?_)
   ·have hx2:=zcP hlj
    have g1:=zan (f:=EQ) hlj hj
    have g2:=zai (f:=EQ) hlj hj
    have g3:=zcQ (f:=EQ) hlj hj
    have hs:=heq _ (List.getElem_mem hlj)
    generalize n.eqs[j]=u at*
    generalize EQ u=c at*
    unfold equC at hx2 hs
    clear heq
    repeat' (first|refine wkt ?_|refine wka ?_|refine wk ?_|exact wkc|intro hc|refine wk2 ?_ ?_|refine wv hs ?_|fail)
    all_goals first
     | exact zab.zak hlj (g2 (by omega))
     | (rw[if_pos (by rw[g1 (by omega)];omega),g3 (by omega)]at hzn;subst hzn;dsimp only at ha;rw[if_neg (by omega)]at ha;rw[ha]at hz;subst hz;(repeat' (first|refine zab.ret ?_|refine wk ?_|fail));exact wkr)
   ·have e0:=zar hj
    rw[if_neg (by rw[e0];decide)]at hzn
    clear heq hd
    by_cases a1:z1=0
    ·rw[if_pos a1]at hzn
     subst a1
     repeat' (first|refine wkt ?_|refine wka ?_|refine wk ?_|exact wkc|intro hc|refine wk2 ?_ ?_|refine wv ca ?_|refine wv ce ?_|fail)
     all_goals first
      | (rw[if_neg (by omega)]at hzn;subst hzn;dsimp only at ha;rw[if_pos rfl]at ha;exact zab.zak hlt ha)
      | (rw[if_pos (by omega)]at hzn;subst hzn;dsimp only at ha;rw[if_neg (by omega)]at ha;rw[ha]at hz;subst hz;(repeat' (first|refine zab.ret ?_|refine wk ?_|fail));exact wkr)
      | (exfalso;omega)
    ·rw[if_neg a1,if_pos a1]at hzn
     subst hzn
     simp only at ha
     rw[if_neg a1]at ha
     rw[ha]at hz
     subst hz
     repeat' (first|refine wkt ?_|refine wka ?_|refine wk ?_|exact wkc|intro hc|refine wk2 ?_ ?_|refine wv ca ?_|fail)
     all_goals first
      | exact wkr
      | (exfalso;omega)
  ·rw[List.drop_of_length_le (Nat.le_refl _)]at ha
   rw[ha]at hz
   subst hz
   repeat' (first|refine wu ?_|exact wkc|intro hc|refine wk2 ?_ ?_|fail)
   exact wkr
 ·rw[if_pos h3]at hz
  subst hz
  refine so Tryz.func28 ?_
  refine wkb ?_
  refine wk ?_
  repeat' (first|refine wkt ?_|refine wka ?_|refine wk ?_|exact wkc|intro hc|refine wk2 ?_ ?_|refine wv hpn ?_|refine wv hty ?_|fail)
  all_goals first
   | exact wkr
   | (exfalso;omega)
theorem zna(p:Prog)(hp:zlM p)(node:I64)(e:Ex)(he:wEx e≤1000000000):Pure Tryz.prog 36 [.t (.ag (zav p)),.i node.1,.t (.ag (exC e))] (.tup [.t (za5 (ofT p node e).1),.i (ofT p node e).2]):=by
 have hml:(p.nodes.map nodT).length=p.nodes.length:=List.length_map _
 have hb:=hp.nodes
 have hcx:=zde p.enums e he
 unfold ofT
 by_cases h2:node.1<0\/(p.nodes.length:Int)≤node.1
 ·rw[if_pos h2]
  clear hcx
  unfold zav exC
  refine so Tryz.func36 ?_
  repeat' (first|refine wu ?_|exact wkc|intro hc|refine wk2 ?_ ?_|fail)
  all_goals first
   | exact wkr
   | (exfalso;omega)
 rw[if_neg h2]
 rw[zaA]at hcx
 by_cases hx:zaP p.enums e≠0
 ·rw[if_pos hx]
  generalize zaP p.enums e=c at hx hcx⊢
  unfold zav exC at*
  refine so Tryz.func36 ?_
  repeat' (first|refine wu ?_|exact wkc|intro hc|refine wk2 ?_ ?_|refine wv hcx ?_|fail)
  all_goals first
   | exact wkr
   | (exfalso;omega)
 rw[if_neg hx]
 have hx0:zaP p.enums e=0:=Classical.byContradiction hx
 rw[hx0]at hcx
 obtain⟨k,hk,hkn⟩:∃k:Nat,k<p.nodes.length/\node.1=(k:Int):=⟨node.1.toNat,by omega,by omega⟩
 have hnt:node.1.toNat=k:=by omega
 rw[hnt,List.getElem?_eq_getElem hk]
 have hat:(p.nodes.map nodT)[node.1.toNat]?=some (.ag (nodC p.nodes[k])):=by rw[hnt];exact zb7 hk
 have hN:=hp.each p.nodes[k] (List.getElem_mem hk)
 have hv:=zc8 p.nodes[k] hN
 have hvl:(zao p.nodes[k]).length≤1000000000:=by have:=hN.ins;have:=hN.outs;have:=hN.locals;simp[zao];omega
 have hr:=zdP ⟨p,node,zao p.nodes[k]⟩ ⟨hb,hp.each,hvl⟩ e he (zc3 hx0) false
 rw[zaA]at hr
 dsimp only at hr⊢
 generalize resT ⟨p,node,zao p.nodes[k]⟩ false e=r at hr⊢
 have h2a:0≤node.1:=by omega
 have h2b:node.1<p.nodes.length:=by omega
 clear hkn hnt h2 hx0 hx hN hp
 generalize zao p.nodes[k]=L at hv hr hvl
 generalize p.nodes[k]=n at hv hat
 obtain⟨node,hn1,hn2⟩:=node
 unfold zav exC nodC at*
 dsimp only[T.n]at*
 refine so Tryz.func36 ?_
 repeat' (first|refine wkt ?_|refine wk2 ?_ ?_|exact wkc|intro hc|refine wv hcx ?_|(apply TO.want;exact rfl)|fail)
 refine TR.zc5 (envF:=?envF) (HF:=[]) [(.t (.ag [.sl 2 (p.enums.map enT),zag p.nodes]),false),(.i node,false),(.cp [.sl 2 (p.enums.map enT),zag p.nodes] 1,false),(.t (zag p.nodes),false),(.i node,false),(.cp (nC n) 0,false),(.t (.ag (nC n)),false),(.t (zac L),true),(.t (.ag [T.v (.int .i64 e.kind.val),T.v (.int .i64 e.op.val),T.v (.int .i64 e.t.val),T.v (.int .i64 e.v.val),.s e.name,.sl 6 (e.args.map exT)]),false),(.tup [.t (za5 r.1),.i r.2],true),(.t (za5 r.1),false),(.i r.2,false),(.t (za5 r.1),false),(.i r.2,false)] [[],[],[]] hmix ?hB ?h0 ?hp ?hF ?hE ?hK
 case hB=>(dsimp only[List.map];decide +kernel)
 case h0=>exact rfl
 case hF=>exact rfl
 case hE=>exact rfl
 case hp=>repeat' (first|refine wu ?_|refine wk2 ?_ ?_|exact wkc|intro hc|refine wv hv ?_|refine wv hr ?_|exact trivial|exact And.intro rfl rfl|refine And.intro (fun H env=>?_) ?_|refine And.intro (fun env=>?_) ?_|fail)
 case hK=>
  repeat' (first|refine wu ?_|refine wk2 ?_ ?_|exact wkc|intro hc|refine wv hv ?_|refine wv hr ?_|exact trivial|exact And.intro rfl rfl|refine And.intro (fun H env=>?_) ?_|refine And.intro (fun env=>?_) ?_|fail)
  exact wkr
end Go.Proofs.YtcbhlhmebbkgnaaGreat
namespace Go.Proofs.YtcbhlhmebbkgnaaGreat
open Go Go.TL
attribute [local irreducible] TR TO Then zaw RetK Sound zab Kf GG zaZ
attribute [local irreducible] zcj
theorem zhb{p:Prog}(h:zcW p=false):zaF p=((-1,-1),2):=by unfold zaF;rw[if_pos h]
set_option maxHeartbeats 4000000 in
theorem zk5 (p:Prog) (hw:(T.ag (zav p)).w≤100000000):Pure Tryz.prog 10 [.t (.ag (zav p))] (.tup [.t (.ag [T.i (zbk p).1.1,T.i (zbk p).1.2]),.i (zbk p).2]):=by
 obtain⟨hP,hln,hpl⟩:=zbr hw
 have hml:(p.nodes.map nodT).length=p.nodes.length:=List.length_map _
 have hpn:=zeU p (by omega)
 have h12:=zfH p hw
 have hz:zbk p=zbk p:=rfl
 conv at hz=>rhs;unfold zbk
 generalize zbk p=z at hz⊢
 have hnk:=fun h n hn=>zh6 (p:=p) (zcm h) hn (hln n hn)
 have hcp:=@zhb p
 generalize zaF p=t at*
 obtain⟨⟨t1,t2⟩,t3⟩:=t
 simp only[Prod.mk.injEq]at hz h12 hnk hcp
 have hpc:zav p=[.sl 2 (p.enums.map enT),zag p.nodes]:=rfl
 rw[hpc]at*
 generalize zcW p=pl at*
 cases pl with
 | false=>
   obtain⟨⟨rfl,rfl⟩,rfl⟩:=hcp rfl
   rw[if_pos (by decide)]at hz
   subst hz
   refine so Tryz.func10 ?_
   repeat' (first|refine wu ?_|exact wkc|intro hc|refine wk2 ?_ ?_|refine wv hpn ?_|fail)
   exact wkr
 | true=>
 clear hcp
 by_cases h3:t3=0
 ·rw[if_neg (by simp[h3])]at hz
  have hnk:=hnk h3
  refine so Tryz.func10 ?_
  repeat' (first|refine wkt ?_|refine wka ?_|refine wk ?_|exact wkc|intro hc|refine wk2 ?_ ?_|refine wv hpn ?_|refine wv h12 ?_|fail)
  refine TR.zal p.nodes.length (fun k=>zdh 0 p.nodes=zdh k (p.nodes.drop k)) (fun k=>[(1,.cp [.sl 2 (p.enums.map enT),zag p.nodes] 0),(2,.ref 0 0),(6,.i k)]) (fun _=>[.cells [.i 0,.i 0]]) rfl (fun k hlt ha=>?_) (fun ha=>?_)
  ·have hx:=zb7 hlt
   have hmem:=List.getElem_mem hlt
   rw[ziI hlt]at ha
   have hs:=zm6 p.nodes[k] (hnk _ hmem)
   generalize zdR p.nodes[k]=r at*
   obtain⟨r1,r2⟩:=r
   generalize p.nodes[k]=n at*
   unfold nodC at*
   simp only at ha hs
   cases r2 with
   | true=>
     rw[if_pos rfl]at ha
     rw[ha]at hz
     subst hz
     repeat' (first|refine wkt ?_|refine wka ?_|refine wk ?_|exact wkc|intro hc|refine wk2 ?_ ?_|refine wv hs ?_|fail)
     (repeat' (first|refine zab.ret ?_|refine wk ?_|fail))
     exact wkr
   | false=>
     rw[if_neg (by decide)]at ha
     repeat' (first|refine wkt ?_|refine wka ?_|refine wk ?_|exact wkc|intro hc|refine wk2 ?_ ?_|refine wv hs ?_|fail)
     first
      | exact zab.zak hlt ha
      | exact zab.zhs 1 hlt ha rfl rfl rfl rfl rfl
  ·rw[List.drop_of_length_le (Nat.le_refl _)]at ha
   rw[ha]at hz
   subst hz
   repeat' (first|refine wu ?_|exact wkc|intro hc|refine wk2 ?_ ?_|fail)
   exact wkr
 ·rw[if_pos h3]at hz
  subst hz
  refine so Tryz.func10 ?_
  repeat' (first|refine wkt ?_|refine wka ?_|refine wk ?_|exact wkc|intro hc|refine wk2 ?_ ?_|refine wv hpn ?_|refine wv h12 ?_|fail)
  all_goals first
   | exact wkr
   | (exfalso;omega)
set_option maxHeartbeats 4000000 in
theorem zgY (p:Prog) (hw:(T.ag (zav p)).w≤100000000) (node:I64):Pure Tryz.prog 13 [.t (.ag (zav p)),.i node.1] (.tup [.t (.sl 1 ((zcb p node).1.map T.s)),.i (zcb p node).2]):=by
 obtain⟨hP,hln,hpl⟩:=zbr hw
 have hml:(p.nodes.map nodT).length=p.nodes.length:=List.length_map _
 have hpn:=zeU p (by omega)
 have h12:=zfH p hw
 have hz:zcb p node=zcb p node:=rfl
 conv at hz=>rhs;unfold zcb
 generalize zcb p node=z at hz⊢
 have hnk:=fun h n hn=>zh6 (p:=p) (zcm h) hn (hln n hn)
 have hcp:=@zhb p
 generalize zaF p=t at*
 obtain⟨⟨t1,t2⟩,t3⟩:=t
 simp only[Prod.mk.injEq]at hz h12 hnk hcp
 have hpc:zav p=[.sl 2 (p.enums.map enT),zag p.nodes]:=rfl
 rw[hpc]at*
 generalize zcW p=pl at*
 cases pl with
 | false=>
   obtain⟨⟨rfl,rfl⟩,rfl⟩:=hcp rfl
   rw[if_pos (by decide)]at hz
   subst hz
   refine so Tryz.func13 ?_
   repeat' (first|refine wu ?_|exact wkc|intro hc|refine wk2 ?_ ?_|refine wv hpn ?_|fail)
   exact wkr
 | true=>
 clear hcp
 by_cases h3:t3=0
 ·rw[if_neg (by simp[h3])]at hz
  have hnk:=hnk h3
  by_cases h2:node.1<0\/(p.nodes.length:Int)≤node.1
  ·rw[if_pos h2]at hz
   subst hz
   refine so Tryz.func13 ?_
   repeat' (first|refine wkt ?_|refine wka ?_|refine wk ?_|exact wkc|intro hc|refine wk2 ?_ ?_|refine wv hpn ?_|refine wv h12 ?_|fail)
   all_goals first
    | exact wkr
    | (exfalso;omega)
  rw[if_neg h2]at hz
  obtain⟨k,hk,hkn⟩:∃k:Nat,k<p.nodes.length/\node.1=(k:Int):=⟨node.1.toNat,by omega,by omega⟩
  have hnt:node.1.toNat=k:=by omega
  rw[hnt,List.getElem?_eq_getElem hk]at hz
  simp only at hz
  have hmem:=List.getElem_mem hk
  have hat:(p.nodes.map nodT)[node.1.toNat]?=some (.ag (nodC p.nodes[k])):=by rw[hnt];exact zb7 hk
  have hN:=hP.each _ hmem
  have hv:=zc8 p.nodes[k] hN
  have hvl:(zao p.nodes[k]).length≤1000000000:=by have:=hN.ins;have:=hN.outs;have:=hN.locals;simp[zao];omega
  have hS:=hnk _ hmem
  have hls:=zhl p.nodes[k] hS.eqs
  have hVl:(zaJ p.nodes[k]).length≤1000000000:=by
   obtain⟨R,_,_,h3⟩:=rounds p.nodes[k].eqs (p.nodes[k].eqs.length+1) [] List.nodup_nil (by simp) (by simp)
   have h:=(Lefts.nil p.nodes[k].eqs).it R
   have:=zhB h.1 h.2
   have:=hS.eqs.len
   unfold zaJ
   rw[<-h3];omega
  have hzl:z.1=zd7 (zaJ p.nodes[k]) (zao p.nodes[k])/\z.2=0:=by rw[hz];exact⟨rfl,rfl⟩
  obtain⟨z1,z2⟩:=z
  obtain⟨e1,e2⟩:=hzl
  simp only at e1 e2
  subst e1 e2
  clear hz hN hS hP hnk
  generalize zaJ p.nodes[k]=V at*
  generalize zao p.nodes[k]=L at*
  have hmL:(L.map zah).length=L.length:=List.length_map _
  generalize p.nodes[k]=n at hv hat hls hln
  clear hln
  have hh:=fun s=>zba V s (by omega)
  unfold nodC at*
  refine so Tryz.func13 ?_
  repeat' (first|refine wkt ?_|refine wka ?_|refine wk ?_|exact wkc|intro hc|refine wk2 ?_ ?_|refine wv hpn ?_|refine wv h12 ?_|refine wv hv ?_|refine wv hls ?_|fail)
  all_goals try(exfalso;omega)
  refine TR.tail 1 10 rfl ?_
  refine TR.weak ?_
  refine TR.zal L.length (fun _=>True) (fun k=>[(8,.t (zae V)),(9,.t (zac L)),(10,.sl 1 ((zd7 V (L.take k)).map T.s) 0),(11,.i k)]) (fun k=>[.tail ((zd7 V (L.take k)).map T.s).length]) trivial (fun k hlt _=>?_) (fun _=>?_)
  ·have hx:=zbh hlt
   have hnx:=zj0 (V:=V) hlt
   have hlen:=zid V (L.take k)
   have hlm:((zd7 V (L.take k)).map T.s).length=(zd7 V (L.take k)).length:=List.length_map _
   have hlt':(L.take k).length≤L.length:=by simp;omega
   have hs:=hh L[k].name
   generalize zd7 V (L.take k)=w at*
   generalize L[k]=u at*
   unfold zb4 at hx
   clear hh
   by_cases hm:u.name∈V
   ·rw[decide_eq_true hm]at hs
    rw[if_pos hm]at hnx
    repeat' (first|refine wu ?_|exact wkc|intro hc|refine wk2 ?_ ?_|refine wv hs ?_|fail)
    exact zab.zak hlt trivial ⟨rfl,rfl,by(try dsimp only);rw[hnx,List.map_append];rfl,rfl,trivial⟩ (by(try dsimp only);rw[hnx,List.map_append,List.length_append];rfl)
   ·rw[decide_eq_false hm]at hs
    rw[if_neg hm]at hnx
    repeat' (first|refine wu ?_|exact wkc|intro hc|refine wk2 ?_ ?_|refine wv hs ?_|fail)
    exact zab.zak hlt trivial ⟨rfl,rfl,by(try dsimp only);rw[hnx];rfl,rfl,trivial⟩ (by(try dsimp only);rw[hnx])
  ·rw[List.take_length]
   repeat' (first|refine wu ?_|exact wkc|intro hc|refine wk2 ?_ ?_|fail)
   refine zcj.own 10 rfl ?_
   repeat' (first|refine wu ?_|exact wkc|intro hc|refine wk2 ?_ ?_|fail)
   exact wkr
 ·rw[if_pos h3]at hz
  subst hz
  refine so Tryz.func13 ?_
  repeat' (first|refine wkt ?_|refine wka ?_|refine wk ?_|exact wkc|intro hc|refine wk2 ?_ ?_|refine wv hpn ?_|refine wv h12 ?_|fail)
  all_goals first
   | exact wkr
   | (exfalso;omega)
set_option maxHeartbeats 2000000 in
theorem zla (p:Prog) (hw:(T.ag (zav p)).w≤100000000) (node:I64) (e:Ex) (he:wEx e≤1000000000):
  Pure Tryz.prog 15 [.t (.ag (zav p)),.i node.1,.t (.ag (exC e))] (.tup [.b (zcN p node e).1,.i (zcN p node e).2]):=by
 obtain⟨hP,hln,hpl⟩:=zbr hw
 have h1:=zgY p hw node
 have h2:=zna p hP node e he
 have hz:zcN p node e=zcN p node e:=rfl
 conv at hz=>rhs;unfold zcN
 generalize zcN p node e=z at hz⊢
 have hpc:zav p=[.sl 2 (p.enums.map enT),zag p.nodes]:=rfl
 have hec:exC e=[T.n e.kind,T.n e.op,T.n e.t,T.n e.v,.s e.name,.sl 6 (e.args.map exT)]:=rfl
 by_cases h3:(zcb p node).2=0
 ·rw[if_neg (by simp[h3])]at hz
  have hq:∃n∈p.nodes,p.nodes[node.1.toNat]?=some n/\(zaF p).2=0/\(zcb p node).1=((zao n).filter fun d=>decide (d.name∈zaJ n)).map Decl.name:=by
   unfold zcb at h3⊢
   have h4:(zaF p).2=0:=Classical.byContradiction fun hh=>by rw[if_pos hh]at h3;exact hh h3
   rw[if_neg (by simp[h4])]at h3⊢
   by_cases h5:node.1<0\/(p.nodes.length:Int)≤node.1
   ·rw[if_pos h5]at h3;cases h3
   ·rw[if_neg h5]
    have h6:=List.getElem?_eq_getElem (l:=p.nodes) (i:=node.1.toNat) (by omega)
    rw[h6]
    exact⟨_,List.getElem_mem _,rfl,h4,rfl⟩
  obtain⟨n,hn,hnn,hck,hll⟩:=hq
  have hall:=zsk (zcm hck) hn
  rw[<-hll]at hall
  have hlx:=znG hall e
  rw[hnn]at hz
  simp only[<-hlx]at hz
  have hlen:(zcb p node).1.length≤1000000000:=by
   rw[hll,List.length_map]
   have hN:=hP.each n hn
   have h1:=hN.ins
   have h2:=hN.outs
   have h3:=hN.locals
   refine Nat.le_trans (List.length_filter_le _ _) ?_
   simp[zao];omega
  have hla:=zei (zcb p node).1 (by omega) _ e (Nat.le_refl _) he
  rw[h3]at h1
  clear hall hlx hll hck hnn
  generalize (zcb p node).1=W at*
  generalize zaW W e=b at*
  generalize ofT p node e=r at*
  obtain⟨r1,r2⟩:=r
  simp only at hz h2
  rw[hpc,hec]at*
  by_cases h5:r2=0
  ·rw[if_neg (by simp[h5])]at hz
   subst hz h5
   refine so Tryz.func15 ?_
   repeat' (first|refine wkt ?_|refine wka ?_|refine wk ?_|exact wkc|intro hc|refine wk2 ?_ ?_|refine wv h1 ?_|refine wv h2 ?_|refine wv hla ?_|fail)
   all_goals first
    | exact wkr
    | (exfalso;omega)
  ·rw[if_pos h5]at hz
   subst hz
   refine so Tryz.func15 ?_
   repeat' (first|refine wkt ?_|refine wka ?_|refine wk ?_|exact wkc|intro hc|refine wk2 ?_ ?_|refine wv h1 ?_|refine wv h2 ?_|fail)
   all_goals first
    | exact wkr
    | (exfalso;omega)
 ·rw[if_pos h3]at hz
  subst hz
  generalize zcb p node=r at*
  rw[hpc,hec]at*
  refine so Tryz.func15 ?_
  repeat' (first|refine wkt ?_|refine wka ?_|refine wk ?_|exact wkc|intro hc|refine wk2 ?_ ?_|refine wv h1 ?_|fail)
  all_goals first
   | exact wkr
   | (exfalso;omega)
end Go.Proofs.YtcbhlhmebbkgnaaGreat
