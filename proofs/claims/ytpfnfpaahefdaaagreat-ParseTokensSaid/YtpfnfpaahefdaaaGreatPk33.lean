import Derived.Test.YtpfnfpaahefdaaaGreatPk32
set_option linter.all false
namespace Go.Proofs.YtpfnfpaahefdaaaGreat
open Go Go.TL
attribute [local irreducible] TR TO Then zab RetK Sound zac Kf GG za2
abbrev prZ0:Blk:=.cells [.t (.v (.slice none 0 0)),.t (.v (.slice none 0 0))]
abbrev noP:Prog:=⟨[],[]⟩
theorem noPT:zeN noP= .ag [.sl 2 [],.sl 8 []]:=rfl
theorem zo8(p:Prog):zeN p= .ag [.sl 2 (p.enums.map enT),.sl 8 (p.nodes.map nodT)]:=rfl
def zct(s:Str):Prog×Int×Int:=
 if(scan s).2.2≠0 then(noP,(scan s).2.1,(scan s).2.2) else
 match (rdr (scan s).1 []).program 0 with
 | .er k c=>(noP,placeOf (scan s).1 s.length k,c)
 | .ok p j=>if j<(scan s).1.length then(noP,placeOf (scan s).1 s.length j,5) else if(zdK p).2=0 then(p,0,0) else(noP,0,(zdK p).2)
theorem zfZ(a c:Int)(x0 x1 b d:SV)(Hr:Heap)(hb:zad (Hr.length+3) Hr=true):
  zcb Tryz.prog 15 [.ref 0 0,.ref 1 0,.ref 2 0] (.cells [x0,x1]:: .cells [b]:: .cells [d]::Hr) (some (.ifc 98 (.t (.ag [T.i a,T.i c])))) (fun H3=>H3=prZ0:: .cells [.i a]:: .cells [.i c]::Hr):=by
 have hc:=zfg a c
 refine zcb.of (tab:=tab) Tryz.func15 (by kernel_rfl) rfl rfl rfl rfl ?_
 repeat' (first|refine wkb ?_|(apply TO.zhb;exact rfl;exact rfl;kernel_rfl)|refine Then.normal ?_|refine wv hc ?_|fail)
 have ht:(prZ0::Blk.cells [.i a]::Blk.cells [.i c]::Hr).take (Blk.cells [x0,x1]::Blk.cells [b]::Blk.cells [d]::Hr).length=prZ0::Blk.cells [.i a]::Blk.cells [.i c]::Hr:=by simp
 refine⟨qae _,?_,ht⟩
 show zad _ (List.take _ (prZ0::Blk.cells [.i a]::Blk.cells [.i c]::Hr))=true
 rw[ht]
 exact hb
theorem zjn(H:Heap)(hb:zad H.length H=true):
  zcb Tryz.prog 15 [.ref 0 0,.ref 1 0,.ref 2 0] H none (fun H3=>H3=H):=by
 refine zcb.of (tab:=tab) Tryz.func15 (by kernel_rfl) rfl rfl rfl rfl ?_
 repeat' (first|refine wkb ?_|(apply TO.zgl;exact rfl;exact rfl;kernel_rfl)|refine Then.normal ?_|fail)
 exact⟨qae _,by rw[qaH (qae _)];exact hb,qaH (qae _)⟩
attribute [local irreducible] TD zk6
end Go.Proofs.YtpfnfpaahefdaaaGreat
namespace Go.Proofs.YtpfnfpaahefdaaaGreat
open Go Go.TL
attribute [local irreducible] TR TO Then zab RetK Sound zac Kf GG za2
theorem zh5{R:Rd}:∀(m:Nat) (a:List En) {i:Nat},i≤R.K.length->InR R.K.length i (R.types m a i)
 | 0,a,i,h=>⟨qae _,h⟩
 | m+1,a,i,h=>by
   unfold Rd.types
   exact InR.ite (fun hs=>(zcO h).bind fun _ _ _ _=>(zea (zam hs)).bind fun _ j h1 h2=>(zaQ _ h2).bind fun _ j h3 h4=>(zbs _ _ h4).bind fun _ j h5 h6=>(zaQ _ h6).bind fun _ j h7 h8=>(zh5 m _ h8).le (by omega)) fun _=>⟨qae _,h⟩
theorem zkH{R:Rd}(hn:∀i,i≤R.K.length->InR R.K.length (i+1) (R.node R.expr i)):∀(m:Nat) (a:List Nod) {i:Nat},i≤R.K.length->InR R.K.length i (R.nodes m a i)
 | 0,a,i,h=>⟨qae _,h⟩
 | m+1,a,i,h=>by
   unfold Rd.nodes
   exact InR.ite (fun hs=>(zcO h).bind fun _ _ _ _=>(hn _ (zam hs)).bind fun _ j h1 h2=>(zkH hn m _ h2).le (by omega)) fun _=>⟨qae _,h⟩
theorem zoq(l:List Tok)(n:Int)(i:Nat)(hk:TkOk l)(hi:i≤l.length):RdP l n 17 i ((rdr l []).program i)/\InR l.length i ((rdr l []).program i):=by
 refine⟨zhO l n i hk hi,?_⟩
 unfold Rd.program
 have h:=zh5 (R:=rdr l []) (rdr l []).K.length [] (i:=i) (by rw[zaf];exact hi)
 rw[zaf]at h⊢
 cases hq:(rdr l []).types l.length [] i with
 | er k c=>rw[hq]at h;exact h
 | ok es j=>
   rw[hq]at h
   have hlen:=zgK _ hq (by simp) (fun u hu=>by cases hu)
   have hes:EsOk es:=⟨by omega,fun u hu=>by have:=hlen.2 u hu;omega⟩
   have h2:=zkH (R:=rdr l es) (fun j hj=>by rw[zaf]at hj⊢;exact(zmX l n es j hk hes hj).2) l.length [] (i:=j) (by rw[zaf];exact h.2)
   rw[zaf]at h2
   exact h2.bind fun v k h3 h4=>⟨by have:=h.1;omega,h4⟩
theorem zmg(s:Str)(hs:(scan s).2.2=0)(hb:s.length≤1000000):Sound Tryz.prog 14 [.s s,.t (.v (.slice none 0 0))] [] (fun r H'=>r= .ret (.tup [.ref 0 0,.i 0,.i 0])/\H'=[rdZ (scan s).1 s.length 0]):=by
 exact zwd
attribute [local irreducible] TD zk6
set_option maxHeartbeats 8000000 in
theorem zgq (s:Str) (hb:s.length≤1000000) (hw:∀p j,(rdr (scan s).1 []).program 0= .ok p j->zfc p 1000000000):
  Pure Tryz.prog 7 [.s s] (.tup [.t (zeN (zct s).1),.i (zct s).2.1,.i (zct s).2.2]):=by
 have hk:=zgw s
 have hP:=zoq (scan s).1 s.length 0 hk (qaV _)
 have hz:zct s=zct s:=rfl
 conv at hz=>rhs;unfold zct
 generalize zct s=z at hz⊢
 by_cases hs:(scan s).2.2≠0
 ·have h1:=zkf s [] hs
  rw[if_pos hs]at hz
  subst hz
  simp only[noPT]
  refine Sound.zdb zaa Tryz.func7 (by kernel_rfl) rfl rfl (gf:=15) (cv:=[.ref 0 0,.ref 1 0,.ref 2 0]) ?_
  refine TD.seq ?_
  repeat' (first|refine wkb ?_|refine wk ?_|fail)
  refine zaC ?_
  refine TD.seq ?_
  repeat' (first|refine wkb ?_|refine wv h1 ?_|refine wk ?_|exact wkc|intro hc|refine wk2 ?_ ?_|fail)
  refine zaC ?_
  refine TD.seq ?_
  repeat' (first|refine wkb ?_|exact wkc|intro hc|refine wk2 ?_ ?_|fail)
  refine rgX 0 (g:=True) [(.t (.ag [.v (.slice none 0 0),.v (.slice none 0 0)]),0,0),(.i (scan s).2.1,0,1),(.i (scan s).2.2,0,2),(.any,1,0),(.any,1,0),(.any,1,0)] [[prZ0,.cells [.i (scan s).2.1],.cells [.i (scan s).2.2]],[prZ0,.cells [.i (scan s).2.1],.cells [.i (scan s).2.2]],[prZ0,.cells [.i (scan s).2.1],.cells [.i (scan s).2.2]],[prZ0,.cells [.i (scan s).2.1],.cells [.i (scan s).2.2]]] ?_ (fun _=>?_)
  ·repeat' (first|refine wkt ?_|exact trivial|exact⟨⟨rfl,rfl⟩,trivial⟩|refine qai (fun env=>?_) ?_|refine qai ?_ ?_|refine wk ?_|exact wkc|intro hc|refine wk2 ?_ ?_|fail)
   done
  ·repeat' (first|refine wkb ?_|fail)
   refine znt ?_
   exact wkr
 have h1:=zmg s (by simpa using hs) hb
 rw[if_neg hs]at hz
 clear hs
 obtain⟨hx,hin⟩:=hP
 generalize (scan s).1=l at*
 cases hq:(rdr l []).program 0 with
 | er k c=>
   rw[hq]at hx hin hz
   have hc0:=hin.2
   unfold RdP at hx
   simp only[PR.code,PR.at,PR.vl]at hx
   simp only at hz
   subst hz
   simp only[noPT]
   refine Sound.zdb zaa Tryz.func7 (by kernel_rfl) rfl rfl (gf:=15) (cv:=[.ref 0 0,.ref 1 0,.ref 2 0]) ?_
   refine TD.seq ?_
   repeat' (first|refine wkb ?_|refine wk ?_|fail)
   refine zaC ?_
   refine TD.seq ?_
   refine wk ?_
   repeat' (first|refine wkb ?_|(apply TO.zjl h1;(iterate 3 exact rfl);exact⟨Le.refl _,Le.refl _,trivial⟩;exact rfl;exact rfl)|refine wk ?_|exact wkc|intro hc|refine wk2 ?_ ?_|fail)
   refine zaC ?_
   refine TD.seq ?_
   repeat' (first|refine wkb ?_|refine wk ?_|exact wkc|intro hc|refine wk2 ?_ ?_|fail)
   refine zaC ?_
   refine TD.defer (tz:=0) rfl rfl ?_
   repeat' (first|refine wkb ?_|refine wk ?_|refine we4 hx ?_ ?_|exact wkc|intro hc|refine wk2 ?_ ?_|fail)
   exact⟨_,zfZ _ _ _ _ _ _ _ rfl,fun H3 h=>by subst h;exact wkr⟩
 | ok p j=>
   have hwe:=hw p j hq
   rw[hq]at hx hin hz
   obtain⟨_,hj⟩:=hin
   unfold RdP at hx
   simp only[PR.code,PR.at,PR.vl]at hx
   simp only at hz
   have hfi:=zfk l s.length p.enums j hk.len hj
   rw[zo8 p]at hx
   by_cases hlt:j<l.length
   ·rw[if_pos hlt]at hz hfi
    subst hz
    simp only[noPT]
    replace hfi:=hfi.er
    refine Sound.zdb zaa Tryz.func7 (by kernel_rfl) rfl rfl (gf:=15) (cv:=[.ref 0 0,.ref 1 0,.ref 2 0]) ?_
    refine TD.seq ?_
    repeat' (first|refine wkb ?_|refine wk ?_|fail)
    refine zaC ?_
    refine TD.seq ?_
    refine wk ?_
    repeat' (first|refine wkb ?_|(apply TO.zjl h1;(iterate 3 exact rfl);exact⟨Le.refl _,Le.refl _,trivial⟩;exact rfl;exact rfl)|refine wk ?_|exact wkc|intro hc|refine wk2 ?_ ?_|fail)
    refine zaC ?_
    refine TD.seq ?_
    repeat' (first|refine wkb ?_|refine wk ?_|exact wkc|intro hc|refine wk2 ?_ ?_|fail)
    refine zaC ?_
    refine TD.defer (tz:=0) rfl rfl ?_
    repeat' (first|refine wkb ?_|refine wk ?_|refine we4 hx ?_ ?_|refine we4 hfi ?_ ?_|exact wkc|intro hc|refine wk2 ?_ ?_|fail)
    exact⟨_,zfZ _ _ _ _ _ _ _ rfl,fun H3 h=>by subst h;exact wkr⟩
   ·rw[if_neg hlt]at hz hfi
    replace hfi:=hfi.ok
    have hsh:Pure Tryz.prog 8 [.t (.ag [.sl 2 (p.enums.map enT),.sl 8 (p.nodes.map nodT)])] _:=ziW p hwe
    generalize zdK p=x at*
    obtain⟨xw,xe⟩:=x
    simp only at hsh hz
    by_cases hx0:xe=0
    ·rw[if_pos hx0]at hz
     subst hx0
     subst hz
     simp only[zo8]
     exact zwe
    ·rw[if_neg hx0]at hz
     subst hz
     simp only[noPT]
     exact zwe
end Go.Proofs.YtpfnfpaahefdaaaGreat
namespace Go.Proofs.YtpfnfpaahefdaaaGreat
open Go Go.TL
attribute [local irreducible] TR TO Then zab RetK Sound zac Kf GG za2
def om(e:Ex):Nat:=(exT e).w
theorem w_n(n:I64):(T.n n).w=1:=by rw[T.w];rfl
theorem w_bo(b:Bool):(T.b b).w=1:=by rw[T.w];rfl
theorem zo3:∀l:List Ex,((l.map exT).map T.w).sum=(l.map om).sum
 | []=>rfl
 | e::l=>by rw[qah,qah,qax,zo3 l,qah,qax];rfl
theorem zqV(e:Ex):om e=7+e.name.length+(e.args.map om).sum:=by
 unfold om
 rw[zao,w_ag]
 simp only[exC,qah,qas,qax,qaK,w_n,w_s,w_sl]
 have:=zo3 e.args
 unfold om at this
 omega
theorem zeJ(k o t v:Int)(s:Str)(l:List Ex):om (mkE k o t v s l)=7+s.length+(l.map om).sum:=by rw[zqV];rfl
section
variable {R:Rd}
theorem zqW{f:Nat->PR Ex}(hf:∀ {i e j},f i= .ok e j->10000*i+om e≤10000*j)(n:Nat):∀(m:Nat) {a:Ex} {i:Nat} {e:Ex} {j c:Nat},R.ops f n m a i= .ok e j->c+om a≤10000*i->c+om e≤10000*j
 | 0,a,i,e,j,c,h,hc=>by cases h;exact hc
 | m+1,a,i,e,j,c,h,hc=>by
   unfold Rd.ops at h
   split at h
   ·cases h;exact hc
   ·rename_i op ho
    obtain⟨b,k,h1,h⟩:=zae h
    have h1:=hf h1
    have h3:c+om (mkE 3 op 0 0 [] [a,b])≤10000*k:=by rw[zeJ];simp only[qah,qas,qax,qaK,qaf];omega
    rcases zaL h with ⟨_,h⟩|⟨_,h⟩
    ·cases h;exact h3
    ·exact zqW hf n m h h3
theorem znE(hS:∀k,(R.txt k).length≤4000):∀(m:Nat) {a:Ex} {i:Nat} {e:Ex} {j c:Nat},R.whens m a i= .ok e j->c+om a≤10000*i->c+om e≤10000*j
 | 0,a,i,e,j,c,h,hc=>by cases h;exact hc
 | m+1,a,i,e,j,c,h,hc=>by
   unfold Rd.whens at h
   rcases zaL h with ⟨_,h⟩|⟨_,h⟩
   ·obtain⟨o,k,h1,h⟩:=zae h
    obtain⟨h1,kk,hn⟩:=zer h1
    have hn':o.name.length≤4000:=by rw[hn];exact hS kk
    refine znE hS m h ?_
    rw[zqV];simp only[Ex.args,Ex.name,qah,qas,qax,qaK,qaf];omega
   ·cases h;exact hc
theorem zoQ{f:Nat->PR Ex}(hf:∀ {i e j},f i= .ok e j->10000*i+om e≤10000*j):∀(m:Nat) {l:List Ex} {i:Nat} {l':List Ex} {j c:Nat},R.args f m l i= .ok l' j->c+(l.map om).sum≤10000*i->c+(l'.map om).sum≤10000*j
 | 0,l,i,e,j,c,h,hc=>by cases h;exact hc
 | m+1,l,i,e,j,c,h,hc=>by
   unfold Rd.args at h
   rcases zaL h with ⟨_,h⟩|⟨_,h⟩
   ·obtain⟨b,k,h1,h⟩:=zae h
    have h1:=hf h1
    refine zoQ hf m h ?_
    rw[qav,qbL];simp only[qah,qas,qax,qaK,qaf];omega
   ·cases h;exact hc
theorem zqA{f g:Nat->PR Ex}(hf:∀ {i e j},f i= .ok e j->10000*i+om e≤10000*j)(hg:∀ {i e j},g i= .ok e j->10000*i+om e≤10000*j){s:Str}(hs:s.length≤4000){i:Nat}{e:Ex}{j:Nat}(h:R.call f g s i= .ok e j):10000*i+om e≤10000*j:=by
 unfold Rd.call at h
 obtain⟨l,k,h1,h⟩:=zae h
 have hl:10000*i+10000+(l.map om).sum≤10000*k:=by
  rcases zaL h1 with ⟨_,h1⟩|⟨_,h1⟩
  ·cases h1;simp only[qas,qaK];omega
  ·obtain⟨a,k2,h2,h1⟩:=zae h1
   obtain⟨l2,k3,h3,h1⟩:=zae h1
   obtain⟨_,k4,h4,h1⟩:=zae h1
   have h2:=hf h2
   have h3:=zoQ hf _ h3 (c:=10000*i) (by simpa using h2)
   have h4:=zbk h4
   cases h1
   omega
 rcases zaL h with ⟨_,h⟩|⟨_,h⟩
 ·obtain⟨a,k2,h2,h⟩:=zae h
  have h2:=hg h2
  cases h
  rw[zeJ,qav,qbL];simp only[qah,qas,qax,qaK,qaf];omega
 ·cases h
  rw[zeJ];omega
theorem zkl{f:Nat->PR Ex}(hf:∀ {i e j},f i= .ok e j->10000*i+om e≤10000*j){t v:Nat}{b:Bool}{i:Nat}{te:Nat×Ex}{j:Nat}(h:R.branch f t v b i= .ok te j):10000*i+40000+om te.2≤10000*j:=by
 exact zwp
theorem zkW{l:List Ex}{k:Nat}{e:Ex}:((l.set k e).map om).sum≤(l.map om).sum+om e:=by
 exact zwba
theorem zg2{f:Nat->PR Ex}(hf:∀ {i e j},f i= .ok e j->10000*i+om e≤10000*j){t size:Nat}:∀(m:Nat) {k:Nat} {l:List Ex} {i:Nat} {l':List Ex} {j:Nat},R.branches f t size m k l i= .ok l' j->size≤k+m->10000*i+40000*(size-k)+(l'.map om).sum≤10000*j+(l.map om).sum
 | 0,k,l,i,l',j,h,hm=>by cases h;omega
 | m+1,k,l,i,l',j,h,hm=>by
   unfold Rd.branches at h
   rcases zaL h with ⟨hs,h⟩|⟨hs,h⟩
   ·cases h;omega
   ·obtain⟨te,k2,h1,h⟩:=zae h
    have h1:=zkl hf h1
    have h2:=zg2 hf m h (by omega)
    have h3:=zkW (l:=l) (k:=if t=1 then 1-k else k) (e:=te.2)
    omega
theorem zpI(hS:∀k,(R.txt k).length≤4000){f:Nat->PR Ex}(hf:∀ {i e j},f i= .ok e j->10000*i+om e≤10000*j){i:Nat}{e:Ex}{j:Nat}(h:R.merge f i= .ok e j):10000*i+om e≤10000*j:=by
 unfold Rd.merge at h
 obtain⟨s,k1,h1,h⟩:=zae h
 obtain⟨te,k2,h2,h⟩:=zae h
 obtain⟨l,k3,h3,h⟩:=zae h
 obtain⟨e1,en⟩:=ze0 h1
 have en':s.length≤4000:=by rw[en];exact hS _
 have e2:=zkl hf h2
 have e3:=zg2 hf _ h3 (by omega)
 have e4:=zkW (l:=List.replicate (R.size te.1) noE) (k:=if R.isAt (k1+1) [116,114,117,101]=true then 1 else 0) (e:=te.2)
 have e5:((List.replicate (R.size te.1) noE).map om).sum=7*R.size te.1:=by
  rw[qb2,show om noE=7 from zeJ ..]
  simp;omega
 have e6:(l.map om).sum=(l.map om).sum:=rfl
 cases h
 rw[zeJ]
 omega
theorem zpz(hS:∀k,(R.txt k).length≤4000){f g:Nat->PR Ex}(hf:∀ {i e j},f i= .ok e j->10000*i+om e≤10000*j)(hg:∀ {i e j},g i= .ok e j->10000*i+om e≤10000*j){i:Nat}{e:Ex}{j:Nat}(h:R.ident f g i= .ok e j):10000*i+om e≤10000*j:=by
 unfold Rd.ident at h
 obtain⟨s,k1,h1,h⟩:=zae h
 obtain⟨e1,en⟩:=ze0 h1
 have en':s.length≤4000:=by rw[en];exact hS _
 rcases zaL h with ⟨_,h⟩|⟨_,h⟩
 ·have:=zqA hf hg en' h;omega
 ·split at h
  all_goals
   cases h
   rw[zeJ];simp only[qas,qaK,qaf];omega
theorem zqY(hS:∀k,(R.txt k).length≤4000){f g:Nat->PR Ex}(hf:∀ {i e j},f i= .ok e j->10000*i+om e≤10000*j)(hg:∀ {i e j},g i= .ok e j->10000*i+om e≤10000*j){i:Nat}{e:Ex}{j:Nat}(h:R.prim f g i= .ok e j):10000*i+om e≤10000*j:=by
 unfold Rd.prim at h
 rcases zaL h with ⟨_,h⟩|⟨_,h⟩
 ·exact zwej
 rcases zaL h with ⟨_,h⟩|⟨_,h⟩
 ·cases h
 rcases zaL h with ⟨_,h⟩|⟨_,h⟩
 ·rcases zaL h with ⟨_,h⟩|⟨_,h⟩
  ·cases h
  ·exact zwej
 rcases zaL h with ⟨_,h⟩|⟨_,h⟩
 ·exact zwej
 rcases zaL h with ⟨_,h⟩|⟨_,h⟩
 ·exact zwej
 rcases zaL h with ⟨_,h⟩|⟨_,h⟩
 ·exact zwej
 rcases zaL h with ⟨_,h⟩|⟨_,h⟩
 ·exact zwdg
 rcases zaL h with ⟨_,h⟩|⟨_,h⟩
 ·obtain⟨a,k1,h1,h⟩:=zae h
  obtain⟨_,k2,h2,h⟩:=zae h
  obtain⟨b,k3,h3,h⟩:=zae h
  obtain⟨_,k4,h4,h⟩:=zae h
  obtain⟨c,k5,h5,h⟩:=zae h
  have h1:=hf h1
  have h2:=zbk h2
  have h3:=hf h3
  have h4:=zbk h4
  have h5:=hf h5
  cases h
  rw[zeJ];simp only[qah,qas,qax,qaK,qaf];omega
 rcases zaL h with ⟨_,h⟩|⟨_,h⟩
 ·have:=zpI hS hf h;omega
 ·exact zpz hS hf hg h
theorem pF_o(hS:∀k,(R.txt k).length≤4000):∀(m:Nat) (g:G) {i:Nat} {e:Ex} {j:Nat},pF R m g i= .ok e j->10000*i+om e≤10000*j
 | 0,g,i,e,j,h=>by cases h
 | m+1,.expr,i,e,j,h=>by
   unfold pF at h
   obtain⟨a,k,h1,h⟩:=zae h
   have h1:=pF_o hS m _ h1
   rcases zaL h with ⟨_,h⟩|⟨_,h⟩
   ·exact zwcb
   rcases zaL h with ⟨_,h⟩|⟨_,h⟩
   ·exact zwcb
   ·cases h;exact h1
 | m+1,.level n,i,e,j,h=>by
   unfold pF at h
   rcases zaL h with ⟨_,h⟩|⟨_,h⟩
   ·rcases zaL h with ⟨_,h⟩|⟨_,h⟩
    ·exact zwcb
    ·exact pF_o hS m _ h
   rcases zaL h with ⟨_,h⟩|⟨_,h⟩
   ·exact pF_o hS m _ h
   ·obtain⟨a,k,h1,h⟩:=zae h
    exact zqW (fun h=>pF_o hS m _ h) n _ h (pF_o hS m _ h1)
 | m+1,.unary,i,e,j,h=>by
   unfold pF at h
   rcases zaL h with ⟨_,h⟩|⟨_,h⟩
   ·exact zwcb
   rcases zaL h with ⟨_,h⟩|⟨_,h⟩
   ·exact zwcb
   ·obtain⟨a,k,h1,h⟩:=zae h
    exact znE hS _ h (pF_o hS m _ h1)
 | m+1,.prim,i,e,j,h=>by
   unfold pF at h
   exact zqY hS (fun h=>pF_o hS m _ h) (fun h=>pF_o hS m _ h) h
end
def sw{α:Type}(f:α->T)(l:List α):Nat:=(l.map fun x=>(f x).w).sum
theorem zcy{α:Type}(f:α->T):sw f []=0:=rfl
theorem zes{α:Type}(f:α->T)(x:α)(l:List α):sw f (x::l)=(f x).w+sw f l:=by simp[sw]
theorem zfn{α:Type}(f:α->T)(l:List α)(x:α):sw f (l++[x])=sw f l+(f x).w:=by simp[sw]
theorem zgW{α:Type}(sz:Nat)(f:α->T)(l:List α):(T.sl sz (l.map f)).w=1+sw f l:=by
 rw[w_sl,qbQ];rfl
theorem zfo{α:Type}{f:α->T}:∀ {l:List α} {x:α},x∈l->(f x).w≤sw f l
 | y::l,x,h=>by
   rw[zes]
   rcases qa8.1 h with rfl|h
   ·omega
   ·have:=zfo (f:=f) h;omega
section
variable {R:Rd}
theorem zbI:∀(ss:List Str) {i j:Nat} {u:Unit},R.must ss i= .ok u j->i+ss.length≤j
 | [],i,j,u,h=>by cases h;simp
 | s::ss,i,j,u,h=>by
   unfold Rd.must at h
   split at h
   ·have:=zbI ss h
    rw[qac];omega
   ·cases h
theorem zq8{i j:Nat}{t:I64}(h:R.typ i= .ok t j):i+1≤j:=by
 unfold Rd.typ at h
 split at h
 ·cases h;exact qae _
 split at h
 ·cases h;exact qae _
 obtain⟨s,k,h1,h2⟩:=zae h
 have:=(ze0 h1).1
 split at h2
 ·cases h2;omega
 ·cases h2
theorem w_on(o:OnC):(onT o).w=4+o.name.length:=by
 unfold onT
 rw[w_ag];simp only[qah,qas,qax,qaK,w_s,w_n];omega
theorem zqE(hS:∀k,(R.txt k).length≤4000):∀(m:Nat) {l:List OnC} {i:Nat} {l':List OnC} {j c:Nat},R.clk m l i= .ok l' j->c+sw onT l≤10000*i->c+sw onT l'≤10000*j
 | 0,l,i,l',j,c,h,hc=>by cases h;exact hc
 | m+1,l,i,l',j,c,h,hc=>by
   unfold Rd.clk at h
   split at h
   ·obtain⟨_,k,h1,h⟩:=zae h
    obtain⟨o,k2,h2,h⟩:=zae h
    obtain⟨e2,kk,hn⟩:=zer h2
    have hn':o.name.length≤4000:=by rw[hn];exact hS kk
    refine zqE hS m h ?_
    rw[zfn,w_on];omega
   ·cases h;exact hc
theorem zqH(hS:∀k,(R.txt k).length≤4000){i:Nat}{d:Decl}{j:Nat}(h:R.decl i= .ok d j):10000*i+(zag d).w≤10000*j:=by
 unfold Rd.decl at h
 obtain⟨s,k,h1,h⟩:=zae h
 obtain⟨_,k2,h2,h⟩:=zae h
 obtain⟨t,k3,h3,h⟩:=zae h
 obtain⟨l,k4,h4,h⟩:=zae h
 obtain⟨e1,en⟩:=ze0 h1
 have e2:=zbI _ h2
 have e3:=zq8 h3
 have e4:=zqE hS _ h4 (c:=10000*k3) (by rw[zcy];omega)
 have en':s.length≤4000:=by rw[en];exact hS _
 cases h
 unfold zag
 rw[w_ag];simp only[qah,qas,qax,qaK,w_s,w_n,zgW]
 simp only[qac,qaf]at e2
 omega
theorem zkz{n most i j:Nat}{u:Unit}(h:R.zgS n most i= .ok u j):j=i:=by
 unfold Rd.zgS at h
 split at h
 ·exact(zbh h).2
 ·cases h;rfl
theorem zhD(hS:∀k,(R.txt k).length≤4000){most:Nat}{op:Bool}:∀(m:Nat) {l:List Decl} {i:Nat} {l':List Decl} {j c:Nat},R.decls most op m l i= .ok l' j->c+sw zag l≤10000*i->c+sw zag l'≤10000*j
 | 0,l,i,l',j,c,h,hc=>by cases h;exact hc
 | m+1,l,i,l',j,c,h,hc=>by
   unfold Rd.decls at h
   obtain⟨_,k,h1,h⟩:=zae h
   obtain⟨d,k2,h2,h⟩:=zae h
   have e1:=zkz h1
   have e2:=zqH hS h2
   have e3:c+sw zag (l++[d])≤10000*k2:=by rw[zfn];omega
   split at h
   ·cases h;exact e3
   ·exact zhD hS m h (by omega)
theorem zkB(hS:∀k,(R.txt k).length≤4000){i:Nat}{l:List Decl}{j:Nat}(h:R.locals i= .ok l j):10000*i+sw zag l≤10000*j:=by
 unfold Rd.locals at h
 split at h
 ·obtain⟨l',k,h1,h⟩:=zae h
  obtain⟨_,k2,h2,h⟩:=zae h
  have e1:=zhD hS _ h1 (c:=10000*i) (by rw[zcy];omega)
  have e2:=zbI _ h2
  cases h;omega
 ·cases h;rw[zcy];omega
theorem zmV(hS:∀k,(R.txt k).length≤4000){most:Nat}{sep:Str}:∀(m:Nat) {l:List Str} {i:Nat} {l':List Str} {j c:Nat},R.names most sep m l i= .ok l' j->c+sw T.s l≤10000*i->c+sw T.s l'≤10000*j
 | 0,l,i,l',j,c,h,hc=>by cases h;exact hc
 | m+1,l,i,l',j,c,h,hc=>by
   unfold Rd.names at h
   obtain⟨_,k,h1,h⟩:=zae h
   obtain⟨s,k2,h2,h⟩:=zae h
   have e1:=zkz h1
   obtain⟨e2,en⟩:=ze0 h2
   have en':s.length≤4000:=by rw[en];exact hS _
   have e3:c+sw T.s (l++[s])≤10000*k2:=by rw[zfn,w_s];omega
   split at h
   ·exact zmV hS m h (by omega)
   ·cases h;exact e3
theorem zqQ(hS:∀k,(R.txt k).length≤4000){i:Nat}{l:List Str}{j:Nat}(h:R.left i= .ok l j):10000*i+sw T.s l≤10000*j:=by
 unfold Rd.left at h
 split at h
 ·obtain⟨l',k,h1,h⟩:=zae h
  obtain⟨_,k2,h2,h⟩:=zae h
  have e1:=zmV hS _ h1 (c:=10000*i) (by rw[zcy];omega)
  have e2:=zbI _ h2
  cases h;omega
 ·obtain⟨s,k,h1,h⟩:=zae h
  obtain⟨e2,en⟩:=ze0 h1
  have en':s.length≤4000:=by rw[en];exact hS _
  cases h
  rw[zes,zcy,w_s];omega
theorem zmA(hS:∀k,(R.txt k).length≤4000){i:Nat}{e:Ex}{j:Nat}(h:R.expr i= .ok e j):10000*i+om e≤10000*j:=pF_o hS _ _ h
theorem zp2(e:Ex):((exC e).map T.w).sum+1=om e:=by
 unfold om;rw[zao,w_ag];omega
theorem zln(hS:∀k,(R.txt k).length≤4000){i:Nat}{q:Equ}{j:Nat}(h:R.equation R.expr i= .ok q j):10000*i+(equT q).w≤10000*j:=by
 unfold Rd.equation at h
 obtain⟨l,k,h1,h⟩:=zae h
 obtain⟨_,k2,h2,h⟩:=zae h
 obtain⟨e,k3,h3,h⟩:=zae h
 obtain⟨_,k4,h4,h⟩:=zae h
 have e1:=zqQ hS h1
 have e2:=zbI _ h2
 have e3:=zmA hS h3
 have e4:=zbI _ h4
 simp only[qac,qaf]at e2 e4
 cases h
 have:=zp2 e
 show 10000*i+(T.ag (.sl 1 (l.map T.s)::exC e)).w≤_
 rw[w_ag,qah,qax,zgW]
 omega
theorem zkj(hS:∀k,(R.txt k).length≤4000){au:Nat->PR Auto}(ha:∀ {i a j},au i= .ok a j->10000*i+(zaG a).w≤10000*j){deep:Bool}:∀(m:Nat) {q:List Equ} {a:List Auto} {i:Nat} {qa:List Equ×List Auto} {j c:Nat},R.body R.expr au deep m q a i= .ok qa j->c+sw equT q+sw zaG a≤10000*i->c+sw equT qa.1+sw zaG qa.2≤10000*j
 | 0,q,a,i,qa,j,c,h,hc=>by cases h;exact hc
 | m+1,q,a,i,qa,j,c,h,hc=>by
   unfold Rd.body at h
   split at h
   ·split at h
    ·cases h
    ·obtain⟨_,k,h1,h⟩:=zae h
     obtain⟨x,k2,h2,h⟩:=zae h
     have e1:=ha h2
     exact zkj hS ha m h (by rw[zfn];omega)
   ·split at h
    ·obtain⟨_,k,h1,h⟩:=zae h
     obtain⟨x,k2,h2,h⟩:=zae h
     have e1:=zln hS h2
     exact zkj hS ha m h (by rw[zfn];omega)
    ·cases h;exact hc
theorem zqJ{i:Nat}{b:Bool}{j:Nat}(h:R.how i= .ok b j):i+1≤j:=by
 unfold Rd.how at h
 split at h
 ·cases h;exact qae _
 ·obtain⟨_,k,h1,h⟩:=zae h
  have:=zbI _ h1
  simp only[qac,qaf]at this
  cases h;omega
theorem zk2(q:Tran):(zaW q).w=om q.cond+2:=by
 show(T.ag (exC q.cond++[T.n q.to,.b q.resume])).w=_
 have:=zp2 q.cond
 rw[w_ag,qav,qbL]
 simp only[qah,qas,qax,qaK,w_n,w_bo]
 omega
theorem zj4(hS:∀k,(R.txt k).length≤4000){w:Str}:∀(m:Nat) {l:List Tran} {g:List (Str×Nat)} {i:Nat} {lg:List Tran×List (Str×Nat)} {j c:Nat},R.trans R.expr w m l g i= .ok lg j->c+sw zaW l≤10000*i->c+sw zaW lg.1≤10000*j
 | 0,l,g,i,lg,j,c,h,hc=>by cases h;exact hc
 | m+1,l,g,i,lg,j,c,h,hc=>by
   unfold Rd.trans at h
   split at h
   ·obtain⟨_,k,h1,h⟩:=zae h
    obtain⟨e,k2,h2,h⟩:=zae h
    obtain⟨b,k3,h3,h⟩:=zae h
    obtain⟨s,k4,h4,h⟩:=zae h
    obtain⟨_,k5,h5,h⟩:=zae h
    have e2:=zmA hS h2
    have e3:=zqJ h3
    have e4:=(ze0 h4).1
    have e5:=zbI _ h5
    refine zj4 hS m h ?_
    rw[zfn,zk2];simp only;omega
   ·cases h;exact hc
theorem znD(n:Str)(l:List Decl)(q:List Equ)(a:List Auto)(u v:List Tran):(staT (.mk n l q a u v)).w=7+n.length+sw zag l+sw equT q+sw zaG a+sw zaW u+sw zaW v:=by
 rw[zdc,w_ag]
 simp only[qah,qas,qax,qaK,w_s,zgW,Sta.name,Sta.locals,Sta.eqs,Sta.autos,Sta.unl,Sta.unt]
 omega
theorem zp0(hS:∀k,(R.txt k).length≤4000){bd:Nat->PR (List Equ×List Auto)}(hb:∀ {i qa j},bd i= .ok qa j->10000*i+sw equT qa.1+sw zaG qa.2≤10000*j){i:Nat}{x:Sta×List (Str×Nat)×List (Str×Nat)}{j:Nat}(h:R.state R.expr bd i= .ok x j):10000*i+(staT x.1).w≤10000*j:=by
 unfold Rd.state at h
 obtain⟨s,k,h1,h⟩:=zae h
 obtain⟨ds,k2,h2,h⟩:=zae h
 obtain⟨u,k3,h3,h⟩:=zae h
 obtain⟨_,k4,h4,h⟩:=zae h
 obtain⟨b,k5,h5,h⟩:=zae h
 obtain⟨v,k6,h6,h⟩:=zae h
 obtain⟨_,k7,h7,h⟩:=zae h
 obtain⟨e1,en⟩:=ze0 h1
 have en':s.length≤4000:=by rw[en];exact hS _
 have e2:=zkB hS h2
 have e3:=zj4 hS _ h3 (c:=10000*k2) (by rw[zcy];omega)
 have e4:=zbI _ h4
 have e5:=hb h5
 have e6:=zj4 hS _ h6 (c:=10000*k5) (by rw[zcy];omega)
 have e7:=zbI _ h7
 cases h
 simp only
 rw[znD]
 omega
theorem zkT(hS:∀k,(R.txt k).length≤4000){bd:Nat->PR (List Equ×List Auto)}(hb:∀ {i qa j},bd i= .ok qa j->10000*i+sw equT qa.1+sw zaG qa.2≤10000*j):∀(m:Nat) {l:List Sta} {g:List (List (Str×Nat))} {i:Nat} {lg:List Sta×List (List (Str×Nat))} {j c:Nat},R.states R.expr bd m l g i= .ok lg j->c+sw staT l≤10000*i->c+sw staT lg.1≤10000*j
 | 0,l,g,i,lg,j,c,h,hc=>by cases h;exact hc
 | m+1,l,g,i,lg,j,c,h,hc=>by
   unfold Rd.states at h
   split at h
   ·obtain⟨_,k,h1,h⟩:=zae h
    obtain⟨x,k2,h2,h⟩:=zae h
    have e2:=zp0 hS hb h2
    exact zkT hS hb m h (by rw[zfn];omega)
   ·cases h;exact hc
theorem zjS:∀(l:List Tran) (js:List Nat),sw zaW (ziV l js)≤sw zaW l
 | [],js=>by simp[ziV,sw]
 | q::l,[]=>by simp[ziV,sw]
 | q::l,j::js=>by
   have:=zjS l js
   unfold ziV at this⊢
   rw[qa7,zes,zes,zk2,zk2]
   simp only;omega
theorem zkO:∀(l:List Sta) (jss:List (List Nat)),sw staT (zdJ l jss)≤sw staT l
 | [],jss=>by simp[zdJ]
 | s::l,[]=>by simp[zdJ]
 | s::l,[a]=>by simp[zdJ]
 | s::l,a::b::jss=>by
   have h1:=zkO l jss
   have h2:=zjS s.unl a
   have h3:=zjS s.unt b
   rw[zdJ,zes,zes,znD]
   cases s with
   | mk n ls q au u v=>
     rw[znD]
     simp only[Sta.name,Sta.locals,Sta.eqs,Sta.autos,Sta.unl,Sta.unt]at h2 h3⊢
     omega
theorem zjg(hS:∀k,(R.txt k).length≤4000){bd:Nat->PR (List Equ×List Auto)}(hb:∀ {i qa j},bd i= .ok qa j->10000*i+sw equT qa.1+sw zaG qa.2≤10000*j){i:Nat}{a:Auto}{j:Nat}(h:R.automaton R.expr bd i= .ok a j):10000*i+(zaG a).w≤10000*j:=by
 unfold Rd.automaton at h
 obtain⟨x,k,h1,h⟩:=zae h
 obtain⟨_,k2,h2,h⟩:=zae h
 obtain⟨jss,k3,h3,h⟩:=zae h
 have e1:=zkT hS hb _ h1 (c:=10000*i) (by rw[zcy];omega)
 have e2:=zbI _ h2
 simp only[qac,qaf]at e2
 have e3:=zkO x.1 jss
 cases h
 rw[zdt,w_ag]
 simp only[qah,qas,qax,qaK,zgW,Auto.states]
 omega
theorem zmk(hS:∀k,(R.txt k).length≤4000):∀(b:Nat) {i:Nat} {qa:List Equ×List Auto} {j:Nat},R.zcB R.expr b i= .ok qa j->10000*i+sw equT qa.1+sw zaG qa.2≤10000*j
 | 0,i,qa,j,h=>by
   unfold Rd.zcB at h
   have:=zkj hS (au:=fun i=>.er i 5) (fun h=>by cases h) _ h (c:=10000*i) (by rw[zcy,zcy];omega)
   exact this
 | b+1,i,qa,j,h=>by
   unfold Rd.zcB at h
   have:=zkj hS (au:=R.automaton R.expr (R.zcB R.expr b)) (fun h=>zjg hS (fun h=>zmk hS b h) h) _ h (c:=10000*i) (by rw[zcy,zcy];omega)
   exact this
theorem zko(hS:∀k,(R.txt k).length≤4000):∀(m:Nat) {a e:List Ex} {i:Nat} {ae:List Ex×List Ex} {j c:Nat},R.claims R.expr m a e i= .ok ae j->c+sw exT a+sw exT e≤10000*i->c+sw exT ae.1+sw exT ae.2≤10000*j
 | 0,a,e,i,ae,j,c,h,hc=>by cases h;exact hc
 | m+1,a,e,i,ae,j,c,h,hc=>by
   unfold Rd.claims at h
   split at h
   ·exact zwbn
   ·split at h
    ·exact zwbn
    ·cases h;exact hc
theorem zqU(hS:∀k,(R.txt k).length≤4000){i:Nat}{n:Nod}{j:Nat}(h:R.node R.expr i= .ok n j):10000*i+(nodT n).w≤10000*j:=by
 unfold Rd.node at h
 obtain⟨s,k1,h1,h⟩:=zae h
 obtain⟨_,k2,h2,h⟩:=zae h
 obtain⟨a,k3,h3,h⟩:=zae h
 obtain⟨_,k4,h4,h⟩:=zae h
 obtain⟨b,k5,h5,h⟩:=zae h
 obtain⟨_,k6,h6,h⟩:=zae h
 obtain⟨d,k7,h7,h⟩:=zae h
 obtain⟨ae,k8,h8,h⟩:=zae h
 obtain⟨_,k9,h9,h⟩:=zae h
 obtain⟨qa,k10,h10,h⟩:=zae h
 obtain⟨_,k11,h11,h⟩:=zae h
 obtain⟨e1,en⟩:=ze0 h1
 have en':s.length≤4000:=by rw[en];exact hS _
 have e2:=zbI _ h2
 have e3:10000*k2+sw zag a≤10000*k3:=by
  unfold Rd.ins at h3
  split at h3
  ·cases h3;rw[zcy];omega
  ·exact zhD hS _ h3 (by rw[zcy];omega)
 have e4:=zbI _ h4
 have e5:=zhD hS _ h5 (c:=10000*k4) (by rw[zcy];omega)
 have e6:=zbI _ h6
 have e7:=zkB hS h7
 have e8:=zko hS _ h8 (c:=10000*k7) (by rw[zcy];omega)
 have e9:=zbI _ h9
 have e10:=zmk hS _ h10
 have e11:=zbI _ h11
 simp only[qac,qaf]at e2 e4 e6 e9 e11
 cases h
 unfold nodT
 rw[w_ag]
 simp only[qah,qas,qax,qaK,w_s,zgW]
 omega
end
theorem zmZ{R:Rd}(hS:∀k,(R.txt k).length≤4000):∀(m:Nat) {l:List Nod} {i:Nat} {l':List Nod} {j:Nat},R.nodes m l i= .ok l' j->l.length≤96->i≤R.K.length->(∀i,i≤R.K.length->InR R.K.length (i+1) (R.node R.expr i))->(∀n∈l,(nodT n).w≤10000*R.K.length)->l'.length≤96/\∀n∈l',(nodT n).w≤10000*R.K.length
 | 0,l,i,l',j,h,hl,hi,hn,hw=>by cases h;exact⟨hl,hw⟩
 | m+1,l,i,l',j,h,hl,hi,hn,hw=>by
   unfold Rd.nodes at h
   split at h
   ·rename_i hs
    obtain⟨_,k,h1,h⟩:=zae h
    obtain⟨x,k2,h2,h⟩:=zae h
    have e1:=(zbh h1).1
    have e2:=zqU hS h2
    have e3:=hn _ (zam hs)
    rw[h2]at e3
    refine zmZ hS m h (by rw[qal];simp only[qac,qaf];omega) e3.2 hn fun n hm=>?_
    rcases qbi.1 hm with hm|hm
    ·exact hw n hm
    ·have:=e3.2
     simp at hm;subst hm;omega
   ·cases h;exact⟨hl,hw⟩
end Go.Proofs.YtpfnfpaahefdaaaGreat
