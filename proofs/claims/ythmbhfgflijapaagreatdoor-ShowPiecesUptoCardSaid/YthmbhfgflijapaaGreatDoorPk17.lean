import Derived.Test.YthmbhfgflijapaaGreatDoorPk16
set_option linter.all false
namespace Go.Proofs.YthmbhfgflijapaaGreatDoor
open Go Go.TL
attribute [local irreducible] TR TO Then zag RetK Sound zab Kf GG zaK
theorem zit(x s:Sta):Pure Tryz.prog 105 [.t (staT x),.cp (staC s) 0] (.b (x.name == s.name)):=by
 rw[zlg]
 unfold staC
 refine so Tryz.func105 ?_
 repeat' (first|refine wu ?_|exact wkc|intro hc|refine wk2 ?_ ?_|fail)
 all_goals
  refine RetK.pure rfl (Le.of_eq ?_) rfl
  refine congrArg (fun b=>SV.t (T.v (Value.bool b))) ?_
  simp[hc]
theorem zik(fid:FuncId)(caps:List SV)(hcaps:unders 0 caps=true)(p:Sta->Bool)(l:List Sta)(hl:l.length≤1000000000)(hp:∀d,Pure Tryz.prog fid (.t (staT d)::caps) (.b (p d))):
  Pure Tryz.prog 138 [.t (.sl 6 (l.map staT)),.fn fid caps] (.i (idxI p l)):=by
 have hml:(l.map staT).length=l.length:=qab _
 refine so Tryz.func138 ?_
 repeat' (first|refine wk ?_|exact wkc|intro hc|refine wk2 ?_ ?_|fail)
 refine TR.zaA l.length (fun k=>(l.take k).all (fun x=>!p x)=true) (fun k=>[(0,.t (.sl 6 (l.map staT))),(1,.fn fid caps),(7,.i l.length),(8,.i k)]) (fun _=>[]) rfl (fun k hlt ha=>?_) (fun ha=>?_) ⟨rfl,rfl,by rw[<-hml];rfl,rfl,trivial⟩
 ·have hx:=zbj staT hlt
  have htk:=zbr hlt
  have hat:=zhx p l k hlt ha
  have hd:=hp l[k]
  generalize l[k]=d at hx htk hat hd
  rw[zlg]at hx hd
  have hu:unders 0 (.t (.ag (staC d))::caps)=true:=by simp[unders,SV.under,hcaps]
  unfold staC at*
  repeat' (first|refine wk ?_|exact wkc|intro hc|refine wk2 ?_ ?_|(apply TO.zhh hd;(iterate 3 exact rfl);exact Les.refl _;exact hu;exact rfl)|fail)
  ·rw[hat hc];exact wkr
  ·exact zwfv
 ·exact zwcw
theorem zgN{α:Type}(p:α->Bool)(l:List α):decide (0≤idxI p l)=l.any p:=by
 rcases zfZ p l with h|⟨k,hk,h,hp⟩
 ·rw[h]
  symm
  cases ha:l.any p with
  | false=>rfl
  | true=>
    exfalso
    have:∀l:List α,l.any p=true->0≤idxI p l:=by
     intro l
     induction l with
     | nil=>intro h;simp at h
     | cons x l ih=>
       intro h
       unfold idxI
       by_cases hx:p x=true
       ·rw[if_pos hx];omega
       ·rw[if_neg hx]
        have:=ih (by simpa [hx]using h)
        rw[if_neg (by omega)];omega
    have:=this l ha
    omega
 ·rw[h]
  have:l.any p=true:=qcz.2 ⟨_,qaf hk,hp⟩
  rw[this];simp
theorem zig(fid:FuncId)(caps:List SV)(hcaps:unders 0 caps=true)(p:Sta->Bool)(l:List Sta)(hl:l.length≤1000000000)(hp:∀d,Pure Tryz.prog fid (.t (staT d)::caps) (.b (p d))):
  Pure Tryz.prog 104 [.t (.sl 6 (l.map staT)),.fn fid caps] (.b (l.any p)):=by
 have hs:=zik fid caps hcaps p l hl hp
 have ha:=zgN p l
 generalize idxI p l=z at*
 have hu:unders 0 [.t (.sl 6 (l.map staT)),.fn fid caps]=true:=by simp[unders,SV.under,hcaps]
 refine so Tryz.func104 ?_
 repeat' (first|refine wk ?_|exact wkc|intro hc|refine wk2 ?_ ?_|(apply TO.zhh hs;(iterate 3 exact rfl);exact Les.refl _;exact hu;exact rfl)|fail)
 all_goals
  refine RetK.pure rfl (Le.of_eq ?_) rfl
  refine congrArg (fun b=>SV.t (T.v (Value.bool b))) ?_
  rw[<-ha];simp;omega
theorem zjr(l:List Str)(hl:l.length≤1000000000)(s:Str):Pure Tryz.prog 166 [.t (.sl 1 (l.map T.s)),.s s] (.i (idxI (fun x=>s == x) l)):=by
 have hml:(l.map T.s).length=l.length:=qab _
 refine so Tryz.func166 ?_
 repeat' (first|refine wk ?_|exact wkc|intro hc|refine wk2 ?_ ?_|fail)
 refine TR.zaA l.length (fun k=>(l.take k).all (fun x=>!(s == x))=true) (fun k=>[(0,.t (.sl 1 (l.map T.s))),(1,.s s),(7,.i l.length),(8,.i k)]) (fun _=>[]) rfl (fun k hlt ha=>?_) (fun ha=>?_) ⟨rfl,rfl,by rw[<-hml];rfl,rfl,trivial⟩
 ·have hx:=at_s hlt
  have htk:=zbr hlt
  have hat:=zhx (fun x=>s == x) l k hlt ha
  generalize l[k]=d at hx htk hat
  repeat' (first|refine wk ?_|exact wkc|intro hc|refine wk2 ?_ ?_|fail)
  ·rw[hat (by simp[hc])];exact wkr
  ·exact zwfv
 ·rw[qap]at ha
  rw[zfv _ l ha]
  repeat' (first|refine wk ?_|exact wkc|intro hc|refine wk2 ?_ ?_|fail)
  exact wkr
theorem zhm(l:List Str)(hl:l.length≤1000000000)(s:Str):Pure Tryz.prog 144 [.t (.sl 1 (l.map T.s)),.s s] (.b (decide (s∈l))):=by
 have hs:=zjr l hl s
 have ha:=zgN (fun x=>s == x) l
 have hm:(l.any fun x=>s == x)=decide (s∈l):=by
  rw[Bool.eq_iff_iff];simp
 rw[hm]at ha
 generalize idxI (fun x=>s == x) l=z at*
 refine so Tryz.func144 ?_
 repeat' (first|refine wk ?_|exact wkc|intro hc|refine wk2 ?_ ?_|refine wv hs ?_|fail)
 all_goals
  refine RetK.pure rfl (Le.of_eq ?_) rfl
  refine congrArg (fun b=>SV.t (T.v (Value.bool b))) ?_
  rw[<-ha];simp;omega
theorem zj0(b:List Str)(hb:b.length≤1000000000)(x:Str):Pure Tryz.prog 143 [.s x,.cp [.sl 1 (b.map T.s)] 0] (.b (!decide (x∈b))):=by
 have hs:=zhm b hb x
 refine so Tryz.func143 ?_
 repeat' (first|refine wu ?_|exact wkc|intro hc|refine wk2 ?_ ?_|refine wb hs ?_ ?_|fail)
 all_goals
  refine RetK.pure rfl (Le.of_eq ?_) rfl
  refine congrArg (fun b=>SV.t (T.v (Value.bool b))) ?_
  rw[hc]
theorem zod(fid:FuncId)(caps:List SV)(hcaps:unders 0 caps=true)(p:Str->Bool)(l:List Str)(hl:l.length≤1000000000)(hp:∀d,Pure Tryz.prog fid (.s d::caps) (.b (p d))):
  Pure Tryz.prog 165 [.t (.sl 1 (l.map T.s)),.fn fid caps] (.i (idxI p l)):=by
 have hml:(l.map T.s).length=l.length:=qab _
 refine so Tryz.func165 ?_
 repeat' (first|refine wk ?_|exact wkc|intro hc|refine wk2 ?_ ?_|fail)
 refine TR.zaA l.length (fun k=>(l.take k).all (fun x=>!p x)=true) (fun k=>[(0,.t (.sl 1 (l.map T.s))),(1,.fn fid caps),(7,.i l.length),(8,.i k)]) (fun _=>[]) rfl (fun k hlt ha=>?_) (fun ha=>?_) ⟨rfl,rfl,by rw[<-hml];rfl,rfl,trivial⟩
 ·have hx:=at_s hlt
  have htk:=zbr hlt
  have hat:=zhx p l k hlt ha
  have hd:=hp l[k]
  generalize l[k]=d at hx htk hat hd
  have hu:unders 0 (.s d::caps)=true:=by simp[unders,SV.under,hcaps]
  repeat' (first|refine wk ?_|exact wkc|intro hc|refine wk2 ?_ ?_|(apply TO.zhh hd;(iterate 3 exact rfl);exact Les.refl _;exact hu;exact rfl)|fail)
  ·rw[hat hc];exact wkr
  ·exact zwfv
 ·exact zwcw
theorem zn0(fid:FuncId)(caps:List SV)(hcaps:unders 0 caps=true)(p:Str->Bool)(l:List Str)(hl:l.length≤1000000000)(hp:∀d,Pure Tryz.prog fid (.s d::caps) (.b (p d))):
  Pure Tryz.prog 142 [.t (.sl 1 (l.map T.s)),.fn fid caps] (.b (l.any p)):=by
 have hs:=zod fid caps hcaps p l hl hp
 have ha:=zgN p l
 generalize idxI p l=z at*
 have hu:unders 0 [.t (.sl 1 (l.map T.s)),.fn fid caps]=true:=by simp[unders,SV.under,hcaps]
 refine so Tryz.func142 ?_
 repeat' (first|refine wk ?_|exact wkc|intro hc|refine wk2 ?_ ?_|(apply TO.zhh hs;(iterate 3 exact rfl);exact Les.refl _;exact hu;exact rfl)|fail)
 all_goals
  refine RetK.pure rfl (Le.of_eq ?_) rfl
  refine congrArg (fun b=>SV.t (T.v (Value.bool b))) ?_
  rw[<-ha];simp;omega
def zmN(a b:List Str):Bool:=decide (a.length=b.length) && !(a.any fun x=>!decide (x∈b))
theorem zlD(a b:List Str)(ha:a.length≤1000000000)(hb:b.length≤1000000000):Pure Tryz.prog 107 [.t (.sl 1 (a.map T.s)),.t (.sl 1 (b.map T.s))] (.b (zmN a b)):=by
 have hs:=zn0 143 [.cp [.sl 1 (b.map T.s)] 0] rfl (fun x=>!decide (x∈b)) a ha (fun x=>zj0 b hb x)
 have m1:(a.map T.s).length=a.length:=qab _
 have m2:(b.map T.s).length=b.length:=qab _
 unfold zmN
 generalize (a.any fun x=>!decide (x∈b))=z at*
 cases z
 all_goals
  refine so Tryz.func107 ?_
  repeat' (first|refine wu ?_|exact wkc|intro hc|refine wk2 ?_ ?_|(apply TO.zhh hs;(iterate 3 exact rfl);exact Les.refl _;exact rfl;exact rfl)|fail)
  all_goals
   refine RetK.pure rfl (Le.of_eq ?_) rfl
   refine congrArg (fun b=>SV.t (T.v (Value.bool b))) ?_
   clear hs
   first
   | (simp;omega)
   | (rw[decide_eq_true (by omega)];rfl)
   | (rw[decide_eq_false (by omega)];rfl)
abbrev zs0 (up:SV)(b:Nat):Heap:=[setB [],setB [],.cells [up,.mp b,.mp (b+1),nilM,nilS]]
theorem zkF(p:Prog)(n q:Int)(seen:List (Int×Str×Int)):
  Sound Tryz.prog 66 [nilP] [lkB p n q,zb2 seen] (fun r H'=>r= .ret (.ref 4 0)/\H'=lkB p n q::zb2 seen::zs0 nilP 2):=by
 refine so Tryz.func66 ?_
 refine wk ?_
 exact RetK.keep 5 rfl (Le.refl _) rfl rfl rfl rfl rfl ⟨rfl,rfl⟩
theorem zpJ(p:Prog)(n q:Int)(seen:List (Int×Str×Int))(h:Ch):
  Sound Tryz.prog 66 [.ref h.id 0] (full p n q seen h) (fun r H'=>r= .ret (.ref (h.N+2) 0)/\H'=full p n q seen h++zs0 (.ref h.id 0) h.N):=by
 cases h
 case one a=>
  refine so Tryz.func66 ?_
  refine wk ?_
  exact RetK.keep 8 rfl (Le.refl _) rfl rfl rfl rfl rfl ⟨rfl,rfl⟩
 case c1=>
  refine so Tryz.func66 ?_
  refine wk ?_
  exact RetK.keep 10 rfl (Le.refl _) rfl rfl rfl rfl rfl ⟨rfl,rfl⟩
 case c2=>
  refine so Tryz.func66 ?_
  refine wk ?_
  exact RetK.keep 14 rfl (Le.refl _) rfl rfl rfl rfl rfl ⟨rfl,rfl⟩
 case c3=>
  refine so Tryz.func66 ?_
  refine wk ?_
  exact RetK.keep 18 rfl (Le.refl _) rfl rfl rfl rfl rfl ⟨rfl,rfl⟩
 case c4=>
  refine so Tryz.func66 ?_
  refine wk ?_
  exact RetK.keep 22 rfl (Le.refl _) rfl rfl rfl rfl rfl ⟨rfl,rfl⟩
abbrev zlQ (l:List Str):Blk:=.cells ((l.map T.s).map .t)
theorem ztI{l:List Str}{k:Nat}(h:k<l.length):((l.map T.s).map SV.t)[0+k*1]?=some (.s l[k]):=by simp[h]
def zbM(own:List Str)(l:List Str):List Str:=l.filter fun x=>!decide (x∈own)
theorem zdT(own l:List Str):(zbM own l).length≤l.length:=qcF _ _
theorem zeC{own l:List Str}{k:Nat}(h:k<l.length):zbM own (l.take (k+1))=zbM own (l.take k)++(if l[k]∈own then[] else[l[k]]):=by
 unfold zbM
 rw[qax h,List.filter_append]
 by_cases hm:l[k]∈own <;> simp[hm]
theorem zkH{own l:List Str}(h:l.all (fun x=>!decide (x∈own))=true):zbM own l=l:=by
 unfold zbM
 rw[List.filter_eq_self]
 intro x hx
 exact qaw.1 h x hx
def midS(own l:List Str)(k:Nat):List Str:=zbM own (l.take k)++l.drop (zbM own (l.take k)).length
theorem znm(own l:List Str)(k:Nat):(midS own l k).length=l.length:=by
 unfold midS
 have h1:=zdT own (l.take k)
 have h2:(l.take k).length≤l.length:=by simp;omega
 simp;omega
theorem zua{own l:List Str}{k:Nat}(h:k<l.length):(midS own l k)[k]?=some l[k]:=by
 unfold midS
 have h1:=zdT own (l.take k)
 have h2:(l.take k).length=k:=by simp;omega
 rw[qaA (by omega),qa6,show(zbM own (l.take k)).length+(k-(zbM own (l.take k)).length)=k from by omega]
 exact qac h
theorem zub{own l:List Str}{k:Nat}(h:k<l.length)(hm:l[k]∈own):midS own l (k+1)=midS own l k:=by
 unfold midS
 rw[zeC h,if_pos hm,qaG]
theorem zrZ{own l:List Str}{k:Nat}(h:k<l.length)(hm:l[k] ∉ own):midS own l (k+1)=(midS own l k).set (zbM own (l.take k)).length l[k]:=by
 have h1:=zdT own (l.take k)
 have h2:(l.take k).length=k:=by simp;omega
 unfold midS
 rw[zeC h,if_neg hm]
 generalize zbM own (l.take k)=K at*
 rw[qca _ _ (qae _),qcd]
 cases hd:l.drop K.length with
 | nil=>
   have:=congrArg List.length hd
   simp at this;omega
 | cons y r=>
   rw[List.set_cons_zero]
   have hr:l.drop (K.length+1)=r:=by
    have:=congrArg (List.drop 1) hd
    rw[qbP]at this
    simpa using this
   rw[qad,qbW,hr]
   simp
theorem zol{own l:List Str}{k:Nat}(hk:k<l.length)(ha:(l.take k).all (fun x=>!decide (x∈own))=true)(hm:l[k]∈own):midS own l (k+1)=l/\(zbM own (l.take (k+1))).length=k:=by
 have h2:(l.take k).length=k:=by simp;omega
 unfold midS
 rw[zeC hk,if_pos hm,qaG,zkH ha,h2]
 exact⟨qaV k l,rfl⟩
theorem zif{k:Nat}{H0:Heap}(h:zaa k H0=true)(ts:List T):zaa k (H0++[.cells (ts.map .t)])=true:=zas h (zjT k ts)
theorem zrS{own l:List Str}{k:Nat}(hk:k<l.length)(hm:l[k]∈own):(zbM own l).length<l.length:=by
 unfold zbM
 refine List.length_filter_lt_length_iff_exists.2 ⟨l[k],qaf hk,by simpa using hm⟩
theorem zoJ(own l:List Str):splice (((midS own l l.length).map T.s).map SV.t) (0+(zbM own l).length*1) (List.replicate (l.length-(zbM own l).length) (.t (T.s [])))=((zbM own l++List.replicate (l.length-(zbM own l).length) []).map T.s).map .t:=by
 have h1:=zdT own l
 unfold splice midS
 rw[qap]
 simp only[qaU,Nat.mul_one,qbG]
 rw[<-qbH,<-qbH,qcL,qaY (by simp),qaG]
 simp
abbrev outH (p:Prog)(n q:Int)(seen:List (Int×Str×Int))(h:Ch):Heap:=lkB p n q::zb2 seen::(h.heap.dropLast++[.dead,.cells [.ref h.id 0]])
theorem ziF(p:Prog)(n q:Int)(seen:List (Int×Str×Int))(h:Ch)(hne:8≤h.N)(hk:zbd h.top.own)(x:Str)(hx:x.length≤1000000000):
  Sound Tryz.prog 141 [.s x,.ref h.N 0] (outH p n q seen h) (fun r H'=>r= .ret (.b (decide (x∈h.top.own)))/\H'=outH p n q seen h):=by
 revert hne hk
 revert h
 refine Ch.lt fun h=>?_
 cases h
 case one=>intro g hne;exact absurd hne (show ¬8≤5 by decide)
 case c1=>intro g hne;exact absurd hne (show ¬8≤7 by decide)
 all_goals
  intro g hne hk
  refine so Tryz.func141 ?_
  repeat' (first|refine wkt ?_|refine wka ?_|refine wk ?_|exact wkc|intro hc|refine wk2 ?_ ?_|(apply TO.ziZ;(iterate 4 exact rfl);assumption;assumption)|(apply TO.ziP;(iterate 3 exact rfl);assumption)|fail)
  all_goals exact retV rfl (bsv (by simp_all [g,Ch.top])) rfl rfl
theorem zn3(p:Prog)(n q:Int)(seen:List (Int×Str×Int))(h:Ch)(hne:8≤h.N)(hk:zbd h.top.own)(l:List Str)(hl:l.length≤2000000000)(hs:∀x∈l,x.length≤1000000000):
  Sound Tryz.prog 165 [.ms 1 (h.N+1) 0 l.length,.fn 141 [.ref h.N 0]] (outH p n q seen h++[zlQ l]) (fun r H'=>r= .ret (.i (idxI (fun x=>decide (x∈h.top.own)) l))/\H'=outH p n q seen h++[zlQ l]):=by
 revert hne hk
 revert h
 refine Ch.lt fun h=>?_
 cases h
 case one=>intro g hne;exact absurd hne (show ¬8≤5 by decide)
 case c1=>intro g hne;exact absurd hne (show ¬8≤7 by decide)
 all_goals
  intro g hne hk
  refine so Tryz.func165 ?_
  repeat' (first|refine wk ?_|exact wkc|intro hc|refine wk2 ?_ ?_|fail)
  refine TR.zaA l.length (fun k=>(l.take k).all (fun x=>!decide (x∈g.top.own))=true) (fun k=>[(0,.ms 1 (g.N+1) 0 l.length),(1,.fn 141 [.ref g.N 0]),(7,.i l.length),(8,.i k)]) (fun _=>outH p n q seen g++[zlQ l]) rfl (fun k hlt ha=>?_) (fun ha=>?_)
  ·have hx:=ztI hlt
   have htk:=zbr hlt
   have hat:=zhx (fun x=>decide (x∈g.top.own)) l k hlt ha
   have hd:=ziF p n q seen g hne hk l[k] (hs _ (qaf hlt))
   generalize l[k]=d at hx htk hat hd
   repeat' (first|refine wk ?_|exact wkc|intro hc|refine wk2 ?_ ?_|refine zqg ?_|(apply TO.zgQ zaf;(iterate 5 exact rfl);exact hx)|(apply TO.zm1 (g.N+1) hd;(iterate 3 exact rfl);exact Les.refl _;exact leB;(iterate 3 exact rfl))|fail)
   ·rw[hat hc];exact retV rfl rfl rfl (zif rfl _)
   ·refine zab.zaI hlt ?_
    rw[htk,qbS,ha]
    simpa using hc
  ·rw[qap]at ha
   rw[zfv _ l ha]
   repeat' (first|refine wk ?_|exact wkc|intro hc|refine wk2 ?_ ?_|fail)
   exact retV rfl rfl rfl (zif rfl _)
theorem zpq(p:Prog)(n q:Int)(seen:List (Int×Str×Int))(h:Ch)(hne:8≤h.N)(hk:zbd h.top.own)(l:List Str)(hl:l.length≤2000000000)(hs:∀x∈l,x.length≤1000000000):
  Sound Tryz.prog 140 [.ms 1 (h.N+1) 0 l.length,.fn 141 [.ref h.N 0]] (outH p n q seen h++[zlQ l])
   (fun r H'=>r= .ret (.ms 1 (h.N+1) 0 (zbM h.top.own l).length)/\H'=outH p n q seen h++[.cells (((zbM h.top.own l++List.replicate (l.length-(zbM h.top.own l).length) []).map T.s).map .t)]):=by
 revert hne hk
 revert h
 refine Ch.lt fun h=>?_
 cases h
 case one=>intro g hne;exact absurd hne (show ¬8≤5 by decide)
 case c1=>intro g hne;exact absurd hne (show ¬8≤7 by decide)
 all_goals
  intro g hne hk
  have hd0:=zn3 p n q seen g hne hk l hl hs
  rcases zfZ (fun x=>decide (x∈g.top.own)) l with h|⟨k0,hk0,h,hp⟩
  ·rw[h]at hd0
   have hall:l.all (fun x=>!decide (x∈g.top.own))=true:=by
    have:=zgN (fun x=>decide (x∈g.top.own)) l
    rw[h]at this
    rw[List.all_eq_not_any_not]
    simpa using this
   rw[zkH hall,qcd]
   simp only[List.replicate_zero,qaG]
   refine so Tryz.func140 ?_
   repeat' (first|refine wk ?_|exact wkc|intro hc|refine wk2 ?_ ?_|(apply TO.zbH (g.N+2) hd0;(iterate 3 exact rfl);exact Les.refl _;(iterate 3 exact rfl);exact zif rfl _;exact rfl;exact rfl;exact zif rfl _;exact zbg _)|fail)
   exact retV rfl rfl rfl (zif rfl _)
  ·rw[h]at hd0
   have hin:l[k0]∈g.top.own:=by simpa using hp
   have hall:(l.take k0).all (fun x=>!decide (x∈g.top.own))=true:=by
    have:∀(l:List Str) (k:Nat),idxI (fun x=>decide (x∈g.top.own)) l=k->(l.take k).all (fun x=>!decide (x∈g.top.own))=true:=by
     intro l
     induction l with
     | nil=>intro k _;simp
     | cons y l ih=>
       intro k hk
       unfold idxI at hk
       by_cases hy:decide (y∈g.top.own)=true
       ·rw[if_pos hy]at hk
        have:k=0:=by omega
        subst this;rfl
       ·rw[if_neg hy]at hk
        split at hk
        ·omega
        ·obtain⟨k',rfl⟩:∃k',k=k'+1:=⟨k-1,by omega⟩
         rw[qaL,qbF,ih k' (by omega)]
         simpa using hy
    exact this l k0 h
   obtain⟨f1,f2⟩:=zol hk0 hall hin
   have hlt1:=zrS hk0 hin
   refine so Tryz.func140 ?_
   repeat' (first|refine wk ?_|exact wkc|intro hc|refine wk2 ?_ ?_|(apply TO.zbH (g.N+2) hd0;(iterate 3 exact rfl);exact Les.refl _;(iterate 3 exact rfl);exact zif rfl _;exact rfl;exact rfl;exact zif rfl _;exact zbg _)|fail)
   refine TR.zaA (l.length-(k0+1)) (fun _=>True) (fun k=>[(0,.ms 1 (g.N+1) 0 l.length),(1,.fn 141 [.ref g.N 0]),(5,.i (zbM g.top.own (l.take (k0+1+k))).length),(6,.i ((k0+1+k:Nat):Int))]) (fun k=>outH p n q seen g++[zlQ (midS g.top.own l (k0+1+k))]) trivial (fun k hlt _=>?_) (fun _=>?_) ⟨rfl,rfl,by rw[qcc,f2];rfl,rfl,trivial⟩ (by rw[qcc,f1];rfl)
   ·have hj:k0+1+k<l.length:=by omega
    have hkl:=zdT g.top.own (l.take (k0+1+k))
    have htl:(l.take (k0+1+k)).length=k0+1+k:=by simp;omega
    have hml:(((midS g.top.own l (k0+1+k)).map T.s).map SV.t).length=l.length:=by rw[qab,qab,znm]
    have hx:(((midS g.top.own l (k0+1+k)).map T.s).map SV.t)[0+(k0+1+k)*1]?=some (.s l[k0+1+k]):=by
     rw[qaU,Nat.mul_one,qar,qar,zua hj];rfl
    have hd:=ziF p n q seen g hne hk l[k0+1+k] (hs _ (qaf hj))
    have g1:=zub (own:=g.top.own) hj
    have g2:=zrZ (own:=g.top.own) hj
    have g3:=zeC (own:=g.top.own) hj
    generalize l[k0+1+k]=x at*
    generalize zbM g.top.own (l.take (k0+1+k))=KS at*
    generalize midS g.top.own l (k0+1+k)=MS at*
    repeat' (first|refine wk ?_|exact wkc|intro hc|refine wk2 ?_ ?_|refine zqg ?_|(apply TO.zgQ zaf;(iterate 5 exact rfl);exact hx)|(apply TO.zm1 (g.N+1) hd;(iterate 3 exact rfl);exact Les.refl _;exact leB;(iterate 3 exact rfl))|(apply TO.ztg zaf;(iterate 7 exact rfl);(show 0+KS.length*1<_;rw[hml];omega);exact rfl)|fail)
    ·have hxo:x∈g.top.own:=by simpa using hc
     rw[if_pos hxo,qaG]at g3
     refine zab.zaI hlt trivial ⟨rfl,rfl,?_,rfl,trivial⟩ ?_
     ·rw[show zbM g.top.own (l.take (k0+1+(k+1)))=KS from g3];rfl
     ·rw[show midS g.top.own l (k0+1+(k+1))=MS from g1 hxo]
    ·have hxo:x ∉ g.top.own:=by simpa using hc
     rw[if_neg hxo]at g3
     refine zab.zaI hlt trivial ⟨rfl,rfl,?_,rfl,trivial⟩ ?_
     ·rw[show zbM g.top.own (l.take (k0+1+(k+1)))=KS++[x] from g3,qad];rfl
     ·rw[show midS g.top.own l (k0+1+(k+1))=MS.set KS.length x from g2 hxo]
      show _=outH p n q seen g++[zlQ (MS.set KS.length x)]
      unfold zlQ
      rw[List.map_set,List.map_set]
      show _=outH p n q seen g++[Blk.cells (((MS.map T.s).map SV.t).set KS.length (.s x))]
      conv=>rhs;rw[show KS.length=0+KS.length*1 from by omega]
      rfl
   ·have hll:k0+1+(l.length-(k0+1))=l.length:=by omega
    have hsp:=zoJ g.top.own l
    have hml:(((midS g.top.own l l.length).map T.s).map SV.t).length=l.length:=by rw[qab,qab,znm]
    rw[hll,qap]
    generalize zbM g.top.own l=KS at*
    generalize midS g.top.own l l.length=MS at*
    repeat' (first|refine wk ?_|exact wkc|intro hc|refine wk2 ?_ ?_|(apply TO.zoI zaf;(iterate 7 exact rfl);omega)|(apply TO.znA zaf;(iterate 6 exact rfl);omega)|(apply TO.zu8 zaf;(iterate 7 exact rfl);omega;(show 0+KS.length*1+(l.length-KS.length)≤_;rw[hml];omega);exact rfl)|fail)
    refine RetK.keep (g.N+2) (v:=.ms 1 (g.N+1) 0 KS.length) rfl (Le.refl _) rfl rfl rfl (H':=outH p n q seen g++[.cells (((KS++List.replicate (l.length-KS.length) []).map T.s).map .t)]) ?_ (zif rfl _) ⟨rfl,rfl⟩
    rw[<-hsp];rfl
end Go.Proofs.YthmbhfgflijapaaGreatDoor
namespace Go.TL
open Go
section rules
variable {P:Program}{n:Nat}{env:Env}{H:Heap}{K:TK}{all:Array Oper}{rest:List Oper}{tab:Tab}
variable {d:Nat}{ty:TypeId}{pos:String}{aft:Array Edge}{q:Bool}
theorem TR.less{c:Code}(i:Nat){v v':SV}(hi:env.look i=some v)(hl:Le v v')(k:TR P n c ((i,v')::env) H K):TR P n c env H K:=by
 exact zwbb
theorem TO.zvL(x sz:Nat){R:Nat}{e:TypeId}{ops:List Oper}(hx:env.look x=some (.rw R 0))(hH:H[R]?=some (.row e []))
  (k:TO q P n all ops ((x,.t (.sl sz []))::env) H K):TO q P n all ops env H K:=by
 intro φ m a h1 h2 h3 h4
 refine k φ m a h1 h2 ⟨h3.1,fun i v hv=>?_⟩ h4
 by_cases hi:x=i
 ·subst hi
  rw[Env.zat]at hv
  cases hv
  obtain⟨y,y1,y2⟩:=h3.2 x _ hx
  refine⟨y,y1,?_⟩
  cases y2 with
  | rw _ _ _ p hp hxs ho=>
    have hH1:m.H[R]?=some (.row e []):=by rw[h1];exact hH
    obtain⟨ad,cap,rfl,hc1,hc2,hc3,hc4⟩:=(ho 0 (by rw[hH1];rfl)).2 rfl
    cases ad with
    | none=>
      simp only at hc4
      subst hc4
      exact .t _ _ (.nil sz)
    | some a0=>
      obtain⟨rfl,_⟩:=hc4
      exact .t _ _ (.sl sz [] p.b 0 cap (fun _=>undef) (qaJ _) (fun i e h=>by simp at h) (fun i j h=>by simp at h) (fun i j h=>by simp at h) (fun i j h=>by simp at h) (fun i e j c h=>by simp at h))
 ·rw[Env.zak _ _ hi]at hv
  exact h3.2 i v hv
theorem TO.less(i:Nat){ops:List Oper}{v v':SV}(hi:env.look i=some v)(hl:Le v v')(k:TO q P n all ops ((i,v')::env) H K):TO q P n all ops env H K:=by
 exact zwbb
theorem TO.shadow{ops:List Oper}{v x:SV}(k:TO q P n all ops ((d,v)::env) H K):TO q P n all ops ((d,v)::(d,x)::env) H K:=by
 intro φ m a h1 h2 h3 h4
 refine k φ m a h1 h2 ⟨h3.1,fun j w hw=>h3.2 j w ?_⟩ h4
 by_cases hj:d=j
 ·subst hj
  rw[Env.zat]at hw⊢;exact hw
 ·rw[Env.zak _ _ hj]at hw
  rw[Env.zak _ _ hj,Env.zak _ _ hj];exact hw
theorem zpE{m:M}(hm:HRel m):Step m ⟨m.A,m.β++[⟨0,0,0⟩],m.H++[.dead],m.w⟩/\HRel ⟨m.A,m.β++[⟨0,0,0⟩],m.H++[.dead],m.w⟩:=by
 have hlen:=hm.len
 have pick:∀(i:Nat) q c,(m.β++[(⟨0,0,0⟩:Place)])[i]?=some q->(m.H++[Blk.dead])[i]?=some c->c.live=true->m.β[i]?=some q/\m.H[i]?=some c:=by
  intro i q c h1 h2 hl
  by_cases hi:i<m.H.length
  ·rw[qat (by rw[hlen];exact hi)]at h1
   rw[qat hi]at h2
   exact⟨h1,h2⟩
  ·rw[qaA (by omega)]at h2
   cases hj:i-m.H.length with
   | zero=>rw[hj]at h2;cases h2;cases hl
   | succ j=>rw[hj]at h2;cases h2
 have own:∀b o,Own ⟨m.A,m.β++[⟨0,0,0⟩],m.H++[.dead],m.w⟩ b o->Own m b o:=by
  rintro b o ⟨i,q,c,h1,h2,h3,h4⟩
  exact⟨i,q,c,(pick i q c h1 h2 h3).1,(pick i q c h1 h2 h3).2,h3,h4⟩
 have s:Step m ⟨m.A,m.β++[⟨0,0,0⟩],m.H++[.dead],m.w⟩:=by
  refine⟨rfl,rfl,rfl,qae _,fun _ _ h=>h,fun _ _ h=>.inl h,fun b o h=>.inl (own b o h),fun _ _ _ _=>rfl,fun _ _ _ _ _=>rfl,fun _ _ _=>rfl,fun _ _ h=>h,fun _ L h=>⟨L,h⟩,fun _ _ _ h=>h,fun i q hq=>⟨q,?_,?_⟩⟩
  ·show(m.β++[_])[i]?=some q
   exact zwev
  ·show zaZ m.H[i]? (m.H++[Blk.dead])[i]? q q
   rw[qat (by rw[<-hlen];exact(qaa.1 hq).1)]
   exact zaZ.refl _ _
 refine⟨s,by simp[hlen],fun i q c h1 h2=>?_,fun i j q r c l hij h1 h2 h3 h4 hc hl=>?_,fun b o h hn=>hm.still b o h (own b o hn),hm.inA,fun i q c h1 h2 hc hq=>hm.inO i q c (pick i q c h1 h2 hc).1 (pick i q c h1 h2 hc).2 hc hq,s.glob hm⟩
 ·cases hlv:c.live with
  | false=>cases c <;> simp[Blk.live]at hlv;trivial
  | true=>exact(hm.blk i q c (pick i q c h1 h2 hlv).1 (pick i q c h1 h2 hlv).2).step hm s (fun o _ _=>⟨rfl,fun _=>rfl⟩) (fun _=>rfl)
 ·exact hm.apart i j q r c l hij (pick i q c h1 h2 hc).1 (pick i q c h1 h2 hc).2 (pick j r l h3 h4 hl).1 (pick j r l h3 h4 hl).2 hc hl
theorem TO.ztw{ops:List Oper}(k:TO false P n all ops env (H++[.dead]) K):TO false P n all ops env H K:=by
 intro φ m a h1 h2 h3 h4
 obtain⟨s,hm'⟩:=zpE h2
 exact TO.zeM (m':=⟨m.A,m.β++[⟨0,0,0⟩],m.H++[.dead],m.w⟩) s (k φ ⟨m.A,m.β++[⟨0,0,0⟩],m.H++[.dead],m.w⟩ a (by rw[h1]) hm' (h3.step h2 s) (h4.step h2 s))
theorem TO.ztH{H1:Heap}{cargs:List SV}{v:SV}{f:Operand}{fid:FuncId}{caps:List SV}{args:Array Operand}{ts:Array TypeId}{vs:List SV}(hs:Sound P fid cargs H fun r H'=>r= .ret v/\H'=H1)(hd:Nat.ble (d+1) n=true)
  (hf:env.val f=some (.fn fid caps))(ha:env.vals args.toList=some vs)(hl:Les (vs++caps) cargs)(k:TO false P n all rest ((d,v)::env) H1 K):
  TO false P n all (⟨some d,.call { callee:=.value f,args:=args,argTypes:=ts },ty,pos,aft,none⟩::rest) env H K:=
 TO.zeX hs hd hf ha hl (fun u H' h=>by obtain⟨h,rfl⟩:=h;cases h;exact k) (fun u H' h=>by cases h.1)
end rules
end Go.TL
namespace Go.Proofs.YthmbhfgflijapaaGreatDoor
open Go Go.TL
attribute [local irreducible] TR TO Then zag RetK Sound zab Kf GG zaK
def dupE:List Str->List Str->Int
 | _,[]=>0
 | pre,s::l=>if s∈pre then 7 else dupE (pre++[s]) l
def lv0:Lv:=⟨[],[],[]⟩
def stS(p:Prog)(seen:List (Int×Str×Int))(node:Int)(F:List Str->List Str->Lv->Auto->Lv×Int)(vis low:List Str)(s:Sta):List Str×Int:=
 let r1:=zai (zbY seen vis) lv0 s.locals
 let r2:=zai (equS p seen node vis low) r1.1 s.eqs
 let r3:=zai (F vis low) r2.1 s.autos
 (zbM r3.1.own r3.1.defs,
   orE r1.2 (orE (ziW (vis++r1.1.own) s.locals) (orE r2.2 (orE r3.2 (orE (zrv p seen node vis s.unl) (orE (zrv p seen node (vis++r3.1.own) s.unt) (zac (fun d:Decl=>if d.name∈r3.1.done then 0 else 8) s.locals)))))))
def zaT(l:List (List Str×Int)):List Str:=(l.headD ([],0)).1
def zc3(l:List (List Str×Int)):Bool:=l.all fun r=>zmN r.1 (zaT l)
def zcU(p:Prog)(seen:List (Int×Str×Int))(node:Int):Nat->List Str->List Str->Lv->Auto->Lv×Int
 | 0,_,_,t,_=>(t,0)
 | k+1,vis0,low,t,a=>
   let rs:=a.states.map (stS p seen node (zcU p seen node k) (vis0++t.own) (low++t.done))
   (⟨t.own,(zaT rs).foldl ins t.done,t.defs++zaT rs⟩,orE (dupE [] (a.states.map Sta.name)) (orE (zac Prod.snd rs) (if zc3 rs=true then 0 else 8)))
def zkQ:Nat->Auto->Prop
 | 0,_=>False
 | k+1,a=>∀s∈a.states,∀b∈s.autos,zkQ k b
structure Good (own:List Str) (B:Nat) (a:Lv):Prop where
 ok:a.ok
 own:a.own=own
 len:a.defs.length≤B
 short:∀s∈a.defs,s.length≤1000000000
theorem Good.mono{own:List Str}{B B':Nat}{a:Lv}(h:Good own B a)(hb:B≤B'):Good own B' a:=⟨h.ok,h.own,qaq h.len hb,h.short⟩
theorem zbS{α β:Type}{f:β->α->β×Int}{G:Nat->β->Prop}{w:α->Nat}(l:List α)(step:∀B a x,x∈l->G B a->(f a x).2=0->G (B+w x) (f a x).1):∀(B:Nat) (a:β),G B a->(zai f a l).2=0->G (B+(l.map w).sum) (zai f a l).1:=by
 induction l with
 | nil=>intro B a h _;simpa [zai]using h
 | cons x l ih=>
   intro B a h hz
   unfold zai at hz⊢
   split at hz
   ·rename_i h0
    rw[if_pos h0]
    have:=ih (fun B a y hy=>step B a y (by simp[hy])) _ _ (step B a x (by simp) h h0) hz
    rw[qah,qay,<-qa4]
    exact this
   ·rename_i h0;exact absurd hz h0
theorem zez{α β:Type}{f:β->α->β×Int}{G:Nat->β->Prop}{w:α->Nat}(l:List α)(step:∀B a x,x∈l->G B a->(f a x).2=0->G (B+w x) (f a x).1)(B:Nat)(a:β)(h:G B a){k:Nat}(hz:(zai f a (l.take k)).2=0):G (B+((l.take k).map w).sum) (zai f a (l.take k)).1:=
 zbS (l.take k) (fun B a x hx=>step B a x (qaN hx)) B a h hz
theorem zqO{α:Type}:∀(l:List α),(l.map fun _=>1).sum=l.length
 | []=>rfl
 | x::l=>by simp[zqO l];omega
theorem zpP{vis low own:List Str}{B:Nat}{a:Lv}{s:Str}(hs:s.length≤1000000000)(h:Good own B a):Good own (B+1) (zc9 vis low a s).1:=by
 refine⟨h.ok.zdq hs,h.own,?_,fun x hx=>?_⟩
 ·have:=h.len
  simp[zc9,Lv.zdq];omega
 ·simp[zc9,Lv.zdq]at hx
  rcases hx with hx|rfl
  ·exact h.short x hx
  ·exact hs
theorem zjj{p:Prog}{seen:List (Int×Str×Int)}{node:Int}{vis0 low own:List Str}{B:Nat}{a:Lv}{u:Equ}(hw:(equT u).w≤1000000000)(h:Good own B a)(hz:(equS p seen node vis0 low a u).2=0):Good own (B+(equT u).w) (equS p seen node vis0 low a u).1:=by
 unfold equS at hz⊢
 simp only[orE]at hz
 have h1:(zai (zc9 (vis0++a.own) low) a u.left).2=0:=by
  split at hz
  ·assumption
  ·exact hz
 have:=zbS (G:=Good own) (w:=fun _=>1) u.left (fun B a x hx h _=>zpP (qaq (zsW hx) hw) h) B a h h1
 refine this.mono ?_
 have:=zeD (q:=u)
 rw[zqO];omega
theorem zqK{p:Prog}{seen:List (Int×Str×Int)}{node:Int}{F:List Str->List Str->Lv->Auto->Lv×Int}{vis low:List Str}{s:Sta}(hw:(staT s).w≤1000000000)
  (hF:∀own B t b,b∈s.autos->Good own B t->(F vis low t b).2=0->Good own (B+(zar b).w) (F vis low t b).1)(hz:(stS p seen node F vis low s).2=0):
  (stS p seen node F vis low s).1.length≤(staT s).w/\∀x∈(stS p seen node F vis low s).1,x.length≤1000000000:=by
 have hws:=zlw s
 unfold stS at hz⊢
 simp only[orE]at hz⊢
 have z1:(zai (zbY seen vis) lv0 s.locals).2=0:=by grind
 have z2:(zai (equS p seen node vis low) (zai (zbY seen vis) lv0 s.locals).1 s.eqs).2=0:=by grind
 have z3:(zai (F vis low) (zai (equS p seen node vis low) (zai (zbY seen vis) lv0 s.locals).1 s.eqs).1 s.autos).2=0:=by grind
 have g0:(fun(B:Nat) (a:Lv)=>a.ok/\a.defs=[]) 0 lv0:=⟨⟨zbd.nil,zbd.nil⟩,rfl⟩
 have g1:=zbS (f:=zbY seen vis) (G:=fun(B:Nat) (a:Lv)=>a.ok/\a.defs=[]) (w:=fun _=>0) s.locals (fun B a x hx h _=>⟨h.1.zgh (by have:=(zbn hx).1;omega),h.2⟩) 0 lv0 g0 z1
 have g2:=zbS (f:=equS p seen node vis low) (G:=Good (zai (zbY seen vis) lv0 s.locals).1.own) (w:=fun u=>(equT u).w) s.eqs (fun B a x hx h hz=>zjj (by have:=zaN (f:=equT) (sz:=7) hx;omega) h hz) 0 _ ⟨g1.1,rfl,by rw[g1.2];exact qae _,by rw[g1.2];simp⟩ z2
 have g3:=zbS (f:=F vis low) (G:=Good (zai (zbY seen vis) lv0 s.locals).1.own) (w:=fun b=>(zar b).w) s.autos (fun B a x hx h hz=>hF _ B a x hx h hz) _ _ g2 z3
 refine⟨?_,fun x hx=>g3.short x ((qb6.1 hx).1)⟩
 refine qaq (zdT _ _) ?_
 have h3:=g3.len
 have e1:((s.eqs.map fun u=>(equT u).w)).sum≤(T.sl 7 (s.eqs.map equT)).w:=by
  rw[w_sl,qa8];simp only[qcu];omega
 have e2:((s.autos.map fun u=>(zar u).w)).sum≤(T.sl 1 (s.autos.map zar)).w:=by
  rw[w_sl,qa8];simp only[qcu];omega
 omega
theorem zg9{p:Prog}{seen:List (Int×Str×Int)}{node:Int}:∀(k:Nat) {vis0 low own:List Str} {B:Nat} {t:Lv} {a:Auto},(zar a).w≤1000000000->Good own B t->(zcU p seen node k vis0 low t a).2=0->Good own (B+(zar a).w) (zcU p seen node k vis0 low t a).1
 | 0,vis0,low,own,B,t,a,hw,h,hz=>h.mono (by omega)
 | k+1,vis0,low,own,B,t,a,hw,h,hz=>by
   have hwa:=zgy a
   unfold zcU at hz⊢
   simp only[orE]at hz⊢
   have z1:zac Prod.snd (a.states.map (stS p seen node (zcU p seen node k) (vis0++t.own) (low++t.done)))=0:=by grind
   have hfs:(zaT (a.states.map (stS p seen node (zcU p seen node k) (vis0++t.own) (low++t.done)))).length≤(zar a).w/\∀x∈zaT (a.states.map (stS p seen node (zcU p seen node k) (vis0++t.own) (low++t.done))),x.length≤1000000000:=by
    cases hs:a.states with
    | nil=>simp[zaT]
    | cons s l=>
      have hm:s∈a.states:=by rw[hs];simp
      have hws:=zaN (f:=staT) (sz:=6) hm
      have z2:(stS p seen node (zcU p seen node k) (vis0++t.own) (low++t.done) s).2=0:=by
       rw[hs,qah,zac]at z1
       split at z1
       ·assumption
       ·exact z1
      have:=zqK (by omega) (fun own B t b hb hg hz=>zg9 k (by have:=zaN (f:=zar) (sz:=1) hb;have:=zlw s;omega) hg hz) z2
      simp only[zaT,qah,List.headD_cons]
      exact⟨by omega,this.2⟩
   generalize zaT (a.states.map (stS p seen node (zcU p seen node k) (vis0++t.own) (low++t.done)))=fs at*
   refine⟨⟨h.ok.own,?_⟩,h.own,?_,fun x hx=>?_⟩
   ·have:∀(l:List Str) (d:List Str),zbd d->(∀x∈l,x.length≤1000000000)->zbd (l.foldl ins d):=by
     exact zwcl
    exact this fs t.done h.ok.done hfs.2
   ·have:=h.len
    simp;omega
   ·simp at hx
    rcases hx with hx|hx
    ·exact h.short x hx
    ·exact hfs.2 x hx
end Go.Proofs.YthmbhfgflijapaaGreatDoor
