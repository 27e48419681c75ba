import Derived.Test.YtpnnpgbaiobbjaaGreatDoorAk13
set_option linter.all false
namespace Go.Proofs.YtpnnpgbaiobbjaaGreatDoor
open Go Go.TL
attribute [local irreducible] TR TO Then zao RetK Sound zab Kf GG zaZ
theorem zhM:∀(rs:List (List Int×Int)),(heads rs).2=0->(heads rs).1.length=rs.length
 | [],_=>rfl
 | x::r,h=>by
   unfold heads at*
   split at h
   ·rename_i h1;exact absurd h h1
   ·rename_i h1
    rw[if_neg h1]
    split at h
    ·rename_i h2;exact absurd h h2
    ·rename_i h2
     rw[if_neg h2]
     simp[zhM r (by simpa using h2)]
theorem zqP:∀(rs:List (List Int×Int)),(heads rs).2≠0->(heads rs).1=[]
 | [],h=>rfl
 | x::r,h=>by
   unfold heads at*
   split
   ·rfl
   ·rename_i h1
    rw[if_neg h1]at h
    split
    ·rfl
    ·rename_i h2;rw[if_neg h2]at h;exact absurd rfl h
theorem zeq:∀(a b:List (List Int×Int)),heads (a++b)=if(heads a).2≠0 then([],(heads a).2) else if(heads b).2≠0 then([],(heads b).2) else((heads a).1++(heads b).1,0)
 | [],b=>by
   simp only[qa1,heads]
   by_cases h:(heads b).2=0
   ·simp[h];exact Prod.ext rfl h
   ·simp[h];exact Prod.ext (zqP b h) rfl
 | x::a,b=>by
   have ih:=zeq a b
   simp only[qbt,heads,ih]
   by_cases h1:x.2=0
   ·by_cases h2:(heads a).2=0
    ·by_cases h3:(heads b).2=0
     ·simp[h1,h2,h3]
     ·simp[h1,h2,h3]
    ·simp[h1,h2]
   ·simp[h1]
theorem zoI(w:Plc)(l:List Ex)(hl:l.length≤1000000000)(ih:∀x∈l,Pure Tryz.prog 110 [.t (plcT w),.t (exT x),.b true] (.tup [.t (zeS (resT w true x).1),.i (resT w true x).2])):
  Pure Tryz.prog 165 [.t (plcT w),.t (.sl 6 (l.map exT))] (.tup [.t (zeS (heads (l.map (resT w true))).1),.i (heads (l.map (resT w true))).2]):=by
 have hml:(l.map exT).length=l.length:=qaa _
 have hR:∀x,(resT w true x).2=0->(resT w true x).1.length=1:=fun x=>zs9
 generalize resT w true=R at ih hR⊢
 unfold plcT plcC at*
 refine so Tryz.func165 ?_
 repeat' (first|refine wu ?_|exact wkc|intro hc|refine wk2 ?_ ?_|fail)
 refine TR.tail 1 6 rfl ?_
 refine TR.zal l.length (fun k=>(heads ((l.take k).map R)).2=0) (fun k=>[(2,.cp [.sl 2 (w.p.enums.map enT),zaC w.p.nodes,T.n w.node,zac w.env] 0),(6,.sl 1 (((heads ((l.take k).map R)).1).map T.i) 0),(11,.t (.sl 6 (l.map exT))),(12,.i l.length),(13,.i k)])
  (fun k=>[.tail (((heads ((l.take k).map R)).1).map T.i).length]) rfl (fun k hlt ha=>?_) (fun ha=>?_) ⟨rfl,rfl,rfl,by rw[<-hml];rfl,rfl,trivial⟩
 ·have hx:=zed hlt
  have hs:=ih l[k] (qad hlt)
  have hr:=hR l[k]
  have htk:heads ((l.take (k+1)).map R)=if(R l[k]).2≠0 then([],(R l[k]).2) else((heads ((l.take k).map R)).1++[(R l[k]).1.headD 0],0):=by
   rw[zb0 hlt,qal,zeq,if_neg (by simpa using ha)]
   by_cases h:(R l[k]).2=0
   ·simp[heads,h]
   ·simp[heads,h]
  have hbad:(R l[k]).2≠0->heads (l.map R)=([],(R l[k]).2):=by
   intro h
   conv=>lhs;rw[<-qaS (k+1) l]
   rw[qal,zeq,htk,if_pos h]
   simp[h]
  have hlen:(heads ((l.take k).map R)).1.length=k:=by rw[zhM _ ha];simp;omega
  have hlenm:((heads ((l.take k).map R)).1.map T.i).length=k:=by rw[qaa,hlen]
  rw[zay]at hs
  generalize R l[k]=r at*
  obtain⟨rl,re⟩:=r
  simp only at hs hr htk hbad
  generalize l[k]=x at*
  unfold exC at hx hs
  generalize (heads ((l.take k).map R)).1=acc at*
  by_cases he:re=0
  ·obtain⟨t0,rfl⟩:∃t0,rl=[t0]:=by
    have:=hr he
    match rl,this with
    | [a],_=>exact⟨a,rfl⟩
   subst he
   rw[if_neg (by simp)]at htk
   repeat' (first|refine wu ?_|exact wkc|intro hc|refine wk2 ?_ ?_|refine wv hs ?_|fail)
   exact zab.zat hlt (by rw[htk]) (by rw[htk,qal];exact⟨rfl,rfl,rfl,rfl,rfl,trivial⟩) (by rw[htk,qal,qae];rfl)
  ·rw[hbad he]
   repeat' (first|refine wu ?_|exact wkc|intro hc|refine wk2 ?_ ?_|refine wv hs ?_|fail)
   exact wkr
 ·rw[qah]at ha⊢
  rw[ha]
  repeat' (first|refine wu ?_|exact wkc|intro hc|refine wk2 ?_ ?_|fail)
  exact wkr
abbrev zeP (w:Plc)(e:Ex)(l:List Int)(f:Int):Prop:=Pure Tryz.prog 165 [.t (plcT w),.t (.sl 6 (e.args.map exT))] (.tup [.t (zeS l),.i f])
abbrev ResP (w:Plc)(e:Ex)(inner:Bool)(r:List Int×Int):Prop:=Pure Tryz.prog 110 [.t (plcT w),.t (.ag (exC e)),.b inner] (.tup [.t (zeS r.1),.i r.2])
theorem zu0{w:Plc}{e:Ex}{l:List Int}{f:Int}(hf:f≠0)(hargs:zeP w e l f)(inner:Bool):ResP w e inner ([],f):=by
 exact zwca
theorem zwK{w:Plc}{e:Ex}{l:List Int}(hargs:zeP w e l 0)(h1:e.kind.1=1)(inner:Bool):ResP w e inner ([e.t.1],0):=by
 exact zwca
theorem zvS{w:Plc}{e:Ex}{l:List Int}(hargs:zeP w e l 0)(h1:e.kind.1=11)(inner:Bool):ResP w e inner ([1],0):=by
 exact zwca
theorem zwL{w:Plc}{e:Ex}{l:List Int}(hargs:zeP w e l 0)(h2:e.kind.1=2)(hw:zcG w)(inner:Bool):ResP w e inner (if(zc1 w.env e.name).2=false then([],6) else([(zc1 w.env e.name).1],0)):=by
 have hto:=zez w e.name hw.env
 unfold zeP ResP plcT plcC exC at*
 cases hb:(zc1 w.env e.name).2
 all_goals
  rw[hb]at hto
  simp only[qbF,if_true,if_false]
  refine so Tryz.func110 ?_
  repeat' (first|refine wu ?_|exact wkc|intro hc|refine wk2 ?_ ?_|refine wv hargs ?_|refine wv hto ?_|fail)
  exact wkr
theorem zwM{w:Plc}{e:Ex}{l:List Int}(hargs:zeP w e l 0)(h3:e.kind.1=3)(inner:Bool):ResP w e inner (if(zbu e.op.1 l).2≠0 then([],(zbu e.op.1 l).2) else([(zbu e.op.1 l).1],0)):=by
 have hres:=zlC e.op.1 l
 unfold zeP ResP plcT plcC exC at*
 by_cases hr:(zbu e.op.1 l).2=0
 ·rw[if_neg (by simp[hr])]
  rw[hr]at hres
  exact zwck
 ·rw[if_pos hr]
  generalize (zbu e.op.1 l).2=f at hr hres⊢
  exact zwck
theorem zwN{w:Plc}{e:Ex}{l:List Int}(hargs:zeP w e l 0)(h4:e.kind.1=4)(hll:l.length=3)(inner:Bool):ResP w e inner (if l.getD 0 0≠1\/l.getD 1 0≠l.getD 2 0 then([],10) else([l.getD 1 0],0)):=by
 unfold zeP ResP plcT plcC exC at*
 obtain⟨a,b,c,rfl⟩:∃a b c,l=[a,b,c]:=by
  match l,hll with
  | [a,b,c],_=>exact⟨a,b,c,rfl⟩
 clear hll
 simp only[List.getD_cons_zero,List.getD_cons_succ]
 by_cases hr:a≠1\/b≠c
 ·rw[if_pos hr]
  exact zwby
 ·rw[if_neg hr]
  obtain⟨rfl,rfl⟩:a=1/\b=c:=by
   refine⟨qav fun h=>hr (.inl h),qav fun h=>hr (.inr h)⟩
  exact zwby
theorem zwO{w:Plc}{e:Ex}{l:List Int}(hargs:zeP w e l 0)(h5:e.kind.1=5\/e.kind.1=6\/e.kind.1=7)(hll:1≤l.length)(hlb:l.length≤1000000000)(inner:Bool):ResP w e inner (if zkZ l=false then([],10) else([l.headD 0],0)):=by
 have heq:=zhC l hlb
 unfold zeP ResP plcT plcC exC at*
 obtain⟨a,r,rfl⟩:∃a r,l=a::r:=by
  match l,hll with
  | a::r,_=>exact⟨a,r,rfl⟩
 clear hll
 simp only[qcE]
 cases hq:zkZ (a::r)
 all_goals
  rw[hq]at heq
  simp only[qbF,if_true,if_false]
  rcases h5 with h5|h5|h5
  all_goals
   refine so Tryz.func110 ?_
   repeat' (first|refine wu ?_|exact wkc|intro hc|refine wk2 ?_ ?_|refine wv hargs ?_|refine wv heq ?_|fail)
   exact wkr
theorem zwP{w:Plc}{e:Ex}{l:List Int}(hargs:zeP w e l 0)(h8:e.kind.1=8\/e.kind.1=9)(hw:zcG w)(hll:1≤l.length)(hlb:l.length≤1000000000)(inner:Bool):ResP w e inner (if zhu w.env e.name e.t.1≠0 then([],zhu w.env e.name e.t.1) else if zkZ l=false then([],10) else([l.headD 0],0)):=by
 have heq:=zhC l hlb
 have hck:=zkK w e.name e.t.1 hw.env
 unfold zeP ResP plcT plcC exC at*
 obtain⟨a,r,rfl⟩:∃a r,l=a::r:=by
  match l,hll with
  | a::r,_=>exact⟨a,r,rfl⟩
 clear hll
 simp only[qcE]
 generalize zhu w.env e.name e.t.1=c at hck⊢
 by_cases hc0:c=0
 ·subst hc0
  rw[if_neg (by simp)]
  cases hq:zkZ (a::r)
  all_goals
   rw[hq]at heq
   simp only[qbF,if_true,if_false]
   rcases h8 with h5|h5
   all_goals
    refine so Tryz.func110 ?_
    repeat' (first|refine wu ?_|exact wkc|intro hc|refine wk2 ?_ ?_|refine wv hargs ?_|refine wv heq ?_|refine wv hck ?_|fail)
    exact wkr
 ·rw[if_pos hc0]
  rcases h8 with h5|h5
  all_goals
   refine so Tryz.func110 ?_
   repeat' (first|refine wu ?_|exact wkc|intro hc|refine wk2 ?_ ?_|refine wv hargs ?_|refine wv hck ?_|fail)
   exact wkr
theorem zvR{w:Plc}{e:Ex}{l:List Int}(hargs:zeP w e l 0)(h10:e.kind.1=10)(hw:zcG w)(hv:e.v.1=0\/e.v.1=1)(inner:Bool):ResP w e inner (zgR w e l inner):=by
 have hcal:=zoM w hw e l inner hv
 unfold zeP ResP plcT plcC exC at*
 refine so Tryz.func110 ?_
 repeat' (first|refine wu ?_|exact wkc|intro hc|refine wk2 ?_ ?_|refine wv hargs ?_|refine wv hcal ?_|fail)
 exact wkr
theorem ziL(w:Plc)(hw:zcG w):∀(m:Nat) (e:Ex),wEx e≤m->wEx e≤1000000000->(∀x∈flat e,Arity x)->∀inner,Pure Tryz.prog 110 [.t (plcT w),.t (exT e),.b inner] (.tup [.t (zeS (resT w inner e).1),.i (resT w inner e).2]):=by
 intro m
 induction m with
 | zero=>intro e he;have:=zcn e;omega
 | succ m ih0=>
   intro e he hb har inner
   have hlb:=zhj e
   have hA:Arity e:=har e (by rw[zcD];exact qas)
   have hargs:=zoI w e.args (by omega) (fun x hx=>ih0 x (by have:=zbP hx;omega) (by have:=zbP hx;omega) (fun y hy=>har y (by
    rw[zcD]
    refine qar _ ?_
    unfold flats
    exact qcd.2 ⟨flat x,qa4.2 ⟨x,hx,rfl⟩,hy⟩)) true)
   clear ih0 har
   have hhl:(heads (e.args.map (resT w true))).2=0->(heads (e.args.map (resT w true))).1.length=e.args.length:=fun h=>by rw[zhM _ h];simp
   rw[zm4]
   generalize heads (e.args.map (resT w true))=h at*
   obtain⟨l,f⟩:=h
   simp only at*
   rw[zay]
   by_cases hf:f=0
   ·subst hf
    rw[if_neg (by simp)]
    have hll:=hhl rfl
    unfold zqU
    have hk:=hA.kind
    have h5':=hA.k5
    have h7':=hA.more
    by_cases h1:e.kind.1=1
    ·rw[if_pos h1]
     exact zwK hargs h1 inner
    rw[if_neg h1]
    by_cases h11:e.kind.1=11
    ·rw[if_pos h11]
     exact zvS hargs h11 inner
    rw[if_neg h11]
    by_cases h2:e.kind.1=2
    ·rw[if_pos h2]
     exact zwL hargs h2 hw inner
    rw[if_neg h2]
    by_cases h3:e.kind.1=3
    ·rw[if_pos h3]
     exact zwM hargs h3 inner
    rw[if_neg h3]
    by_cases h4:e.kind.1=4
    ·rw[if_pos h4]
     exact zwN hargs h4 (by rw[hll];exact hA.k4 h4) inner
    rw[if_neg h4]
    by_cases h5:e.kind.1=5\/e.kind.1=6\/e.kind.1=7
    ·rw[if_pos h5]
     exact zwO hargs h5 (by rcases Decidable.em (e.kind.1=5)with h|h <;> omega) (by omega) inner
    rw[if_neg h5]
    by_cases h8:e.kind.1=8\/e.kind.1=9
    ·rw[if_pos h8]
     exact zwP hargs h8 hw (by rw[hll];have:=h7' (by omega) (by omega);omega) (by omega) inner
    rw[if_neg h8]
    exact zvR hargs (by omega) hw (hA.v (by omega)) inner
   ·rw[if_pos hf]
    exact zu0 hf hargs inner
theorem zfR(w:Plc)(hw:zcG w)(e:Ex)(hb:wEx e≤1000000000)(har:∀x∈flat e,Arity x)(inner:Bool):Pure Tryz.prog 110 [.t (plcT w),.t (exT e),.b inner] (.tup [.t (zeS (resT w inner e).1),.i (resT w inner e).2]):=ziL w hw (wEx e) e (qag _) hb har inner
theorem zaj{α:Type}{f:α->Int}:∀ {l:List α},zaf f l=0->∀x∈l,f x=0
 | [],_,x,hx=>by cases hx
 | y::l,h,x,hx=>by
   unfold zaf at h
   by_cases hy:f y=0
   ·rcases qbe.1 hx with rfl|hx
    ·exact hy
    ·exact zaj (l:=l) (by simpa [hy]using h) x hx
   ·simp[hy]at h
theorem ziX{es:List En}{e:Ex}(h:zbY es e=0):∀x∈flat e,Arity x:=by
 unfold zbY at h
 split at h
 ·rename_i hc
  unfold zgx at hc
  split at hc
  ·cases hc
  ·exact fun x hx=>zsl (zaj hc x hx)
 ·rename_i hc;exact absurd h hc
def orE(a b:Int):Int:=if a=0 then b else a
def zcw(s:Str):Int:=if ident s=true then 0 else 6
def onE(es:List En)(o:OnC):Int:=orE (zcw o.name) (if o.t.1≠2/\hasT es o.t.1 o.tag.1=true then 0 else 5)
def zfp(es:List En)(port:Bool)(d:Decl):Int:=
 orE (zcw d.name) (orE (if 0<zcY es d.ty.1 then 0 else 10) (orE (if port=true/\d.clock.length≠0 then 11 else 0) (orE (if d.clock.length≤4 then 0 else 3) (zaf (onE es) d.clock))))
def equE(es:List En)(q:Equ):Int:=
 orE (if q.left.length=0 then 8 else 0) (orE (if q.left.length≤64 then 0 else 3) (orE (zaf zcw q.left) (orE (zbY es q.right) (if q.left.length=1\/q.right.kind.1=10 then 0 else 5))))
def zlL(k:Int):Bool:=decide (k≠5/\k≠6/\k≠7/\k≠10/\k≠11)
def sless(e:Ex):Bool:=(flat e).all fun x=>zlL x.kind.1
def zfd(es:List En)(states:Int)(strong:Bool)(t:Tran):Int:=
 orE (if 0≤t.to.1/\t.to.1<states then 0 else 14) (orE (zbY es t.cond) (if strong=false\/sless t.cond=true then 0 else 5))
def stE(es:List En)(auto:Auto->Int)(n:Int)(s:Sta):Int:=
 orE (zcw s.name) (orE (if s.locals.length≤256/\s.eqs.length≤256/\s.autos.length≤8/\s.unl.length≤4/\s.unt.length≤4 then 0 else 3)
  (orE (zaf (zfp es false) s.locals) (orE (zaf (equE es) s.eqs) (orE (zaf auto s.autos) (orE (zaf (zfd es n true) s.unl) (zaf (zfd es n false) s.unt))))))
def zcu(es:List En):Nat->Auto->Int
 | 0,_=>3
 | k+1,a=>orE (if a.states.length=0 then 8 else 0) (orE (if a.states.length≤8 then 0 else 3) (zaf (stE es (zcu es k) a.states.length) a.states))
def zft(u:En):Int:=orE (zcw u.name) (orE (if u.tags.length=0 then 8 else 0) (orE (if u.tags.length≤16 then 0 else 3) (zaf zcw u.tags)))
def zmF(es:List En)(n:Nod):Int:=
 orE (zcw n.name) (orE (if n.ins.length≤64/\n.outs.length≤64/\n.locals.length≤256/\n.eqs.length≤256/\n.autos.length≤8/\n.assume.length≤8/\n.ensure.length≤8 then 0 else 3)
  (orE (if n.outs.length=0 then 8 else 0) (orE (zaf (zfp es true) n.ins) (orE (zaf (zfp es true) n.outs) (zaf (zfp es false) n.locals)))))
def zpq(es:List En)(n:Nod):Int:=orE (zaf (zcu es 3) n.autos) (orE (zaf (zbY es) n.assume) (zaf (zbY es) n.ensure))
def zcS{α:Type}(g:α->Int):List α->Int×Int
 | []=>(0,0)
 | x::l=>if g x=0 then(if(zcS g l).2=0 then(0,0) else((zcS g l).1+1,(zcS g l).2)) else(0,g x)
theorem zcj{α:Type}(g:α->Int):∀(l:List α),(zcS g l).2=zaf g l
 | []=>rfl
 | x::l=>by
   simp only[zcS,zaf]
   rw[<-zcj g l]
   split
   ·split <;> simp_all
   ·rfl
theorem zfA{α:Type}(g:α->Int):∀(a b:List α),zcS g (a++b)=if zaf g a=0 then(if zaf g b=0 then(0,0) else((zcS g b).1+a.length,zaf g b)) else zcS g a
 | [],b=>by
   have:=zcj g b
   simp only[qa1,zaf,if_true,qaD]
   split
   ·rename_i h
    cases b with
    | nil=>rfl
    | cons x l=>
      simp only[zcS,zaf]at*
      grind
   ·rw[<-this];simp
 | x::a,b=>by
   have h1:=zcj g (a++b)
   have h2:=zcj g a
   have h3:=zcL g a b
   simp only[qbt,zcS,zaf,zfA g a b,qam]at*
   grind
def zcf(es:List En)(n:Nod):Int×Int:=
 if zmF es n≠0 then(-1,zmF es n) else if zaf (equE es) n.eqs≠0 then zcS (equE es) n.eqs else(-1,zpq es n)
def limE(p:Prog):Int:=if p.enums.length≤24/\p.nodes.length≤96 then 0 else 3
def zba(p:Prog):(Int×Int)×Int:=
 if limE p≠0 then((-1,-1),limE p) else if zaf zft p.enums≠0 then((-1,-1),zaf zft p.enums) else
 if zaf (fun n=>(zcf p.enums n).2) p.nodes=0 then((0,0),0) else
  let i:=(zcS (fun n=>(zcf p.enums n).2) p.nodes).1
  ((i,((p.nodes[i.toNat]?).map fun n=>(zcf p.enums n).1).getD 0),zaf (fun n=>(zcf p.enums n).2) p.nodes)
def strW:Value->Nat
 | .string s=>s.size
 | _=>0
def _root_.Go.TL.T.w:T->Nat
 | .v x=>1+strW x
 | .sl _ es=>1+(es.attach.map fun x=>x.1.w).sum
 | .ag cs=>1+(cs.attach.map fun x=>x.1.w).sum
decreasing_by
 all_goals
  have:=qbi x.2
  simp;omega
theorem w_sl(sz:Nat)(es:List T):(T.sl sz es).w=1+(es.map T.w).sum:=by rw[T.w];simp
theorem w_ag(cs:List T):(T.ag cs).w=1+(cs.map T.w).sum:=by rw[T.w];simp
theorem w_s(s:Str):(T.s s).w=1+s.length:=by rw[T.w];rfl
theorem ziS(t:T):1≤t.w:=by
 cases t with
 | v=>rw[T.w];omega
 | sl=>rw[w_sl];omega
 | ag=>rw[w_ag];omega
theorem zwV(sz:Nat)(es:List T):es.length<(T.sl sz es).w:=by
 have:=zng T.w ziS es
 rw[w_sl];omega
theorem w_in{sz:Nat}{es:List T}{t:T}(h:t∈es):t.w<(T.sl sz es).w:=by
 have:=znh T.w h
 rw[w_sl];omega
theorem zai{α:Type}(f:α->T)(sz:Nat)(l:List α):l.length<(T.sl sz (l.map f)).w:=by
 have:=zwV sz (l.map f);simpa using this
theorem zav{α:Type}{f:α->T}{sz:Nat}{l:List α}{x:α}(h:x∈l):(f x).w<(T.sl sz (l.map f)).w:=w_in (qbO h)
theorem zv3:∀(m:Nat) (e:Ex),wEx e≤m->wEx e≤(exT e).w
 | 0,e,h=>by have:=zcn e;omega
 | m+1,e,h=>by
   have ih:∀x∈e.args,wEx x≤(exT x).w:=fun x hx=>zv3 m x (by have:=zbP hx;omega)
   have hs:(e.args.map wEx).sum≤((e.args.map exT).map T.w).sum:=by
    generalize e.args=l at ih
    clear h
    induction l with
    | nil=>simp
    | cons a l ih2=>
      have h1:=ih a (by simp)
      have h2:=ih2 (fun x hx=>ih x (by simp[hx]))
      simp only[qaj,qao];omega
   rw[zjy,zay,w_ag]
   simp only[exC,qaj,qao,w_sl]
   omega
theorem zdI(e:Ex):wEx e≤(exT e).w:=zv3 _ e (qag _)
end Go.Proofs.YtpnnpgbaiobbjaaGreatDoor
namespace Go.TL
open Go
theorem za6{α:Type}:∀(l:List α),zbx l=some l
 | []=>rfl
 | x::l=>by simp[zbx,za6 l]
theorem zp3{m:M}(hm:HRel m):Step m ⟨m.A,m.β,m.H.map (fun _=>.dead),m.w⟩/\HRel ⟨m.A,m.β,m.H.map (fun _=>.dead),m.w⟩:=by
 have pick:∀(i:Nat) c,(m.H.map (fun _=>Blk.dead))[i]?=some c->c= .dead:=by
  intro i c h
  rw[qau]at h
  cases hq:m.H[i]? with
  | none=>rw[hq]at h;cases h
  | some x=>rw[hq]at h;cases h;rfl
 have own:∀b o,¬Own ⟨m.A,m.β,m.H.map (fun _=>.dead),m.w⟩ b o:=by
  rintro b o ⟨i,q,c,h1,h2,h3,h4⟩
  have:=pick i c h2
  subst this
  cases h3
 refine⟨⟨rfl,rfl,rfl,qag _,fun _ _ h=>h,fun _ _ h=>.inl h,fun b o h=>absurd h (own b o),fun _ _ _ _=>rfl,fun _ _ _ _ _=>rfl,fun _ _ _=>rfl,fun _ _ h=>h,fun _ L h=>⟨L,h⟩,fun _ _ _ h=>h,fun i q hq=>⟨q,hq,?_⟩⟩,?_⟩
 ·have hd:∀n,tlOf (m.H.map (fun _=>Blk.dead))[i]? ≠some n:=by
   intro n h
   cases hq:(m.H.map (fun _=>Blk.dead))[i]? with
   | none=>rw[hq]at h;cases h
   | some x=>have:=pick i x hq;subst this;rw[hq]at h;cases h
  show zaY m.H[i]? (m.H.map (fun _=>Blk.dead))[i]? q q
  unfold zaY
  split
  ·exact fun n' h=>absurd h (hd n')
  ·exact⟨rfl,hd⟩
 ·refine⟨by simpa using hm.len,fun i q c h1 h2=>?_,fun i j q r c l hij h1 h2 h3 h4 hc hl=>?_,fun b o h hn=>own b o hn,hm.inA,fun i q c h1 h2 hc hq=>?_,hm.glob⟩
  ·have:=pick i c h2;subst this;trivial
  ·have:=pick i c h2;subst this;cases hc
  ·have:=pick i c h2;subst this;cases hc
theorem zco(k:Nat):∀n,zad k (List.replicate n .dead)=true
 | 0=>rfl
 | n+1=>by
   rw[List.replicate_succ,zad,zco k n]
   rfl
theorem Sound.zwB{P:Program}{f:FuncId}{args:List SV}{H:Heap}{R R':Res->Heap->Prop}(h:Sound P f args H R)(hr:∀v H',R (.ret v) H'->R' (.ret v) H')
  (hp:∀v H',R (.panic v) H'->v.under H.length=true/\H.length≤H'.length/\R' (.panic v) (List.replicate H.length .dead)):Sound P f args H R':=by
 refine⟨h.1,fun m vs h1 h2 h3=>Calls.mono (h.2 m vs h1 h2 h3) ?_⟩
 rintro e w' ⟨m',r,rfl,s,hm',hres,hR⟩
 cases r with
 | ret v=>exact⟨m',.ret v,rfl,s,hm',hres,hr v _ hR⟩
 | panic v=>
   obtain⟨g1,g2,g3⟩:=hp v _ hR
   obtain⟨s1,hm1⟩:=zp3 hm'
   have hl:(m'.H.map (fun _=>Blk.dead)).take H.length=List.replicate H.length .dead:=by
    rw[List.map_const',List.take_replicate,qcn g2]
   obtain⟨c1,c2,c3⟩:=zfm (k:=H.length) hm1 (s.trans s1) (by simpa using g2) (by rw[h2.len,h1];exact qag _) (by show zad _ (List.take _ (m'.H.map _))=true;rw[hl];exact zco _ _)
   refine⟨M.cut ⟨m'.A,m'.β,m'.H.map fun _=>.dead,m'.w⟩ H.length,.panic v,rfl,c1,c2,?_,?_⟩
   ·cases e with
    | panicked ch=>
      obtain⟨x,x1,x2⟩:=hres
      exact⟨x,x1,c3 v x g1 (s1.srel hm' x2)⟩
    | _=>simp[zbO]at hres
   ·show R' (.panic v) (List.take _ (m'.H.map _))
    rw[hl];exact g3
def Err(c:Int)(v pv:SV)(H1:Heap):Res->Heap->Prop:=fun r H'=>if c=0 then r= .ret v/\H'=H1 else r= .panic pv/\H'=List.replicate H1.length .dead
def Err0(c:Int)(v pv:SV)(H1:Heap)(N:Nat):Res->Heap->Prop:=fun r H'=>if c=0 then r= .ret v/\H'=H1 else r= .panic pv/\N≤H'.length
theorem Sound.err{P:Program}{f:FuncId}{args:List SV}{H H1:Heap}{c:Int}{v pv:SV}(hl:H1.length=H.length)(hu:∀k,pv.under k=true)(h:Sound P f args H (Err0 c v pv H1 H.length)):Sound P f args H (Err c v pv H1):=by
 refine h.zwB (fun u H' g=>?_) (fun u H' g=>?_)
 ·unfold Err0 at g;unfold Err
  split at g
  ·rename_i hc;rw[if_pos hc];exact g
  ·cases g.1
 ·unfold Err0 at g;unfold Err
  split at g
  ·cases g.1
  ·rename_i hc
   obtain⟨g1,g2⟩:=g
   cases g1
   exact⟨hu _,g2,by rw[if_neg hc,hl];exact⟨rfl,rfl⟩⟩
section rules
variable {P:Program}{n:Nat}{env:Env}{H:Heap}{K:TK}{all:Array Oper}{rest:List Oper}{tab:Tab}
variable {d:Nat}{ty:TypeId}{pos:String}{aft:Array Edge}
theorem TO.zma(l:List Nat){Hc H1 H2 H3:Heap}{c:Int}{cargs:List SV}{v v' pv:SV}{f:Operand}{fid:FuncId}{caps:List SV}{args:Array Operand}{ts:Array TypeId}{vs:List SV}
  (hs:Sound P fid cargs Hc (Err c v pv H1))(hd:Nat.ble (d+1) n=true)(hf:env.val f=some (.fn fid caps))(ha:env.vals args.toList=some vs)(hl:Les (vs++caps) (rens (names l H.length) cargs))(hu:unders Hc.length cargs=true)(hh:Hands H l Hc)
  (hv:v.ren (names l H.length)=v')(hpv:pv.ren (names l H.length)=pv)(hH:patch H l (H1.map (Blk.ren (names l H.length)))=H2)(hD:patch H l ((List.replicate H1.length .dead).map (Blk.ren (names l H.length)))=H3)
  (k:c=0->TO false P n all rest ((d,v')::env) H2 K)(kp:c≠0->K (.panic pv) env H3):
  TO false P n all (⟨some d,.call { callee:=.value f,args:=args,argTypes:=ts },ty,pos,aft,none⟩::rest) env H K:=by
 refine TO.call l hs hd hf ha hl hu hh (fun u Hc' h=>?_) (fun u Hc' h=>?_)
 ·unfold Err at h
  split at h
  ·rename_i hc
   obtain⟨h1,rfl⟩:=h
   cases h1
   rw[hv,hH];exact k hc
  ·cases h.1
 ·unfold Err at h
  split at h
  ·cases h.1
  ·rename_i hc
   obtain⟨h1,rfl⟩:=h
   cases h1
   rw[hpv,hD];exact kp hc
theorem TO.zkH(N:Nat){Hc H1 H2:Heap}{c:Int}{cargs:List SV}{v pv:SV}{f:Operand}{fid:FuncId}{caps:List SV}{args:Array Operand}{ts:Array TypeId}{vs:List SV}
  (hs:Sound P fid cargs Hc (Err c v pv H1))(hd:Nat.ble (d+1) n=true)(hf:env.val f=some (.fn fid caps))(ha:env.vals args.toList=some vs)(hl:Les (vs++caps) cargs)
  (hN:Nat.ble N H.length=true)(hc:H.take N=Hc)(hu:unders N cargs=true)(hb:zad N Hc=true)(hv:v.under N=true)(hpv:pv.under N=true)(h1:H1.length=N)(h2:zad N H1=true)
  (hH:zbx (H1++H.drop N)=some H2)(k:c=0->TO false P n all rest ((d,v)::env) H2 K)(kp:c≠0->K (.panic pv) env (List.replicate N .dead++H.drop N)):
  TO false P n all (⟨some d,.call { callee:=.value f,args:=args,argTypes:=ts },ty,pos,aft,none⟩::rest) env H K:=by
 refine TO.zgR N hs ⟨fun u G hr=>?_,fun u G hr=>?_⟩ hd hf ha hl hu (qai hN) hc hb (fun u G hr=>?_) (fun u G hr=>?_)
 ·unfold Err at hr
  split at hr
  ·obtain⟨h,rfl⟩:=hr;cases h;exact⟨hv,h1,h2⟩
  ·cases hr.1
 ·unfold Err at hr
  split at hr
  ·cases hr.1
  ·obtain⟨h,rfl⟩:=hr;cases h;exact⟨hpv,by simp[h1],zco _ _⟩
 ·unfold Err at hr
  split at hr
  ·rename_i hc0
   obtain⟨h,rfl⟩:=hr;cases h;rw[<-zaV hH];exact k hc0
  ·cases hr.1
 ·unfold Err at hr
  split at hr
  ·cases hr.1
  ·rename_i hc0
   obtain⟨h,rfl⟩:=hr;cases h;rw[h1];exact kp hc0
theorem RetK.errP{rs:List ResultVar}{N:Nat}{c:Int}{v pv:SV}{H1:Heap}(hc:c≠0)(hN:Nat.ble N H.length=true)(hu:pv.under H.length=true)(hb:zad H.length H=true):RetK tab rs N (Err0 c v pv H1 N) (.panic pv) env H:=by
 have hn:=qai hN
 have ht:H.take H.length=H:=qaX (qag _)
 exact⟨pv,H.length,Le.refl _,hn,qag _,hu,by rw[ht];exact hb,by rw[ht];unfold Err0;rw[if_neg hc];exact⟨rfl,hn⟩⟩
theorem RetK.errV{rs:List ResultVar}{N:Nat}{c:Int}{v pv:SV}{H1:Heap}{vs:List SV}(hc:c=0)(hr:zcc tab env H rs=some vs)(hl:Le (pack vs) v)(hN:Nat.ble N H1.length=true)(hk:Nat.ble H1.length H.length=true)(hu:v.under H1.length=true)
  (ht:H.take H1.length=H1)(hb:zad H1.length H1=true):RetK tab rs N (Err0 c v pv H1 N) .ret env H:=
 ⟨vs,v,H1.length,hr,hl,qai hN,qai hk,hu,by rw[ht];exact hb,by rw[ht];unfold Err0;rw[if_pos hc];exact⟨rfl,rfl⟩⟩
theorem RetK.errN{rs:List ResultVar}{N:Nat}{c:Int}{v pv:SV}{H1:Heap}{vs:List SV}(hc:c=0)(hr:zcc tab env H rs=some vs)(hl:Le (pack vs) v)(hN:Nat.ble N H1.length=true)(hk:Nat.ble H1.length H.length=true)(hu:v.under H1.length=true)
  (ht:H.take H1.length=H1)(hb:zad H1.length H1=true):RetK tab rs N (Err0 c v pv H1 N) .normal env H:=
 ⟨vs,v,H1.length,hr,hl,qai hN,qai hk,hu,by rw[ht];exact hb,by rw[ht];unfold Err0;rw[if_pos hc];exact⟨rfl,rfl⟩⟩
variable {q:Bool}
theorem TO.zpC(hT:zaA P tab){t:TypeId}{i:TyI}{x y:Operand}{j2:Nat}{v vx:SV}{ts:List T}{ty' ty2:TypeId}{pos' pos2:String}{aft' aft2:Array Edge}(hd:Nat.ble (d+1) n=true)(ht:tab.get t=some i)(hj:Nat.ble (j2+1) n=true)(hne2:Nat.beq j2 d=false)(hx:Env.val ((d,.any)::env) x=some vx)(hy:Env.val ((j2,vx)::(d,.any)::env) y=some v)(hv:v.solid=true)(hc:allT v.cells=some ts)
  (hsz:i.size=ts.length)(hpos:0<ts.length)
  (k:TO false P n all rest ((d,.cp ts 0)::(j2,vx)::(d,.any)::env) H K):TO false P n all (⟨some d,.alloc t,ty,pos,aft,none⟩::⟨some j2,.assign x,ty2,pos2,aft2,none⟩::⟨none,.store t (.tmp d) y,ty',pos',aft',none⟩::rest) env H K:=by
 intro φ m a h1 h2 h3 h4
 obtain⟨z,hz1,hz2,_,_⟩:=(hT t i ht).zero
 obtain⟨zl,z0,_⟩:=zbW (A:=m.A) (w:=m.w) _ _ hz2
 have hzl:z.cells.size=i.size:=by have:=(hT t i ht).len;simp at zl;omega
 let pv:Value:=.pointer (some ⟨m.w.heap.size,0,none⟩)
 let a0:Act:=a.put (some d) pv
 have hE0:ERel m n ((d,.any)::env) a0.tmps:=h3.put d (qai hd) (.any _)
 let a1:Act:=a0.put (some j2) (a0.eval x)
 have hE1:ERel m n ((j2,vx)::(d,.any)::env) a1.tmps:=hE0.put j2 (qai hj) (hE0.val hx)
 have hnj:j2≠d:=fun e=>by rw[e]at hne2;simp at hne2
 obtain⟨g1,g0,g2⟩:=(hE1.val hy).cells hv
 obtain⟨l1,l2⟩:=zeD (m:=m) hc
 let w1:=m.w.alloc (.cells z.cells t)
 have hrun1:(execOp a.eval ⟨some d,.alloc t,ty,pos,aft,none⟩).run P m.w= .ok (.value pv) w1:=by
  simp[execOp,Instr.alloc,hz1,newVar,newRow,pv,w1]
 have hrunm:(execOp a0.eval ⟨some j2,.assign x,ty2,pos2,aft2,none⟩).run P w1= .ok (.value (a0.eval x)) w1:=by
  simp[execOp]
 have hc1:∀o,w1.cell? ⟨m.w.heap.size,o,none⟩=z.cells[o]? :=fun o=>World.cell?_alloc_new ..
 have hlen:(a1.eval y).cells.toList.length=z.cells.size:=by simp;omega
 have hsome:∀q,q<(a1.eval y).cells.toList.length->(w1.cell? ⟨m.w.heap.size,0+q,none⟩).isSome=true:=fun q hq=>by rw[qaO,hc1,qan (by omega)];rfl
 let w2:=w1.setCells m.w.heap.size 0 (a1.eval y).cells.toList
 have hrun2:(execOp a1.eval ⟨none,.store t (.tmp d) y,ty',pos',aft',none⟩).run P w1= .ok .skip w2:=by
  have hev:a1.eval (.tmp d)=pv:=by
   have hlt:d<a.tmps.size:=by rw[h3.1];exact qai hd
   simp[a1,a0,Act.put,Act.eval,qaL,hlt,hnj]
  exact zwn
 obtain⟨e1,e2,e3,e4,e5,e6⟩:=zbN m.w.heap.size (a1.eval y).cells.toList 0 w1
 have kw:Keeps m.w w2:=⟨e1,e2,e3,by show _≤w2.heap.size;rw[e4];simp[w1],fun b hb=>by rw[e5 b (by omega)];exact RowKit.Below.heap_alloc _ _ _ hb⟩
 obtain⟨m',f1,f2,f3,f4,f5⟩:=zhK h2 kw (b:=m.w.heap.size) ⟨qag _,by rw[e4];simp[w1]⟩ ts (fun j=>((a1.eval y).cells[j]?).getD undef) (fun j hj=>by
  have hj':j<(a1.eval y).cells.toList.length:=by simp;omega
  have:=World.cell?_setCells_in m.w.heap.size (a1.eval y).cells.toList 0 w1 hsome j hj'
  rw[qaO]at this
  rw[show w2.cell? _=_ from this,qan (by simpa using hj')]
  simp) (fun j hj=>by
  rw[qan (by omega)]
  exact g0 j _ (qan (by omega))) (fun j u hu=>by
  have hj:=(qab.1 hu).1
  obtain⟨c,hcc,hr⟩:=l2 j u hu
  rw[qan (by omega)]
  exact hr _ (g2 j c _ hcc (qan (by omega))))
 refine wpListIn_plain rfl fun K' hK=>?_
 unfold Oper.wpIn
 refine⟨fun _ _=>trivial,?_⟩
 rw[za3 hrun1 (by intro d e;cases e)]
 simp only[Oper.uponIn]
 refine hK _ _ ?_
 refine wpListIn_plain rfl fun K2 hK2=>?_
 unfold Oper.wpIn
 refine⟨fun _ _=>trivial,?_⟩
 rw[show a.put (some d) pv=a0 from rfl,za3 hrunm (by intro d e;cases e)]
 simp only[Oper.uponIn]
 refine hK2 _ _ ?_
 refine wpListIn_plain rfl fun K3 hK3=>?_
 unfold Oper.wpIn
 refine⟨fun _ _=>trivial,?_⟩
 rw[show a0.put (some j2) (a0.eval x)=a1 from rfl,za3 hrun2 (by intro d e;cases e)]
 simp only[Oper.uponIn]
 refine hK3 _ _ ?_
 have hE:ERel m' n ((d,.cp ts 0)::(j2,vx)::(d,.any)::env) a1.tmps:=by
  refine⟨hE1.1,fun i v hv=>?_⟩
  by_cases hi:d=i
  ·subst hi
   rw[Env.zan]at hv
   cases hv
   refine⟨pv,?_,f5⟩
   have hlt:d<a.tmps.size:=by rw[h3.1];exact qai hd
   simp[a1,a0,Act.put,qaL,hlt,hnj]
  ·rw[Env.zak _ _ hi]at hv
   exact(hE1.step h2 f2).2 i v hv
 have:=k φ m' a1 (by rw[f4,h1]) f3 hE (by simpa [a1,a0,Act.put]using h4.step h2 f2)
 rw[<-f1]
 exact TO.zeT f2 this
end rules
end Go.TL
namespace Go.Proofs.YtpnnpgbaiobbjaaGreatDoor
open Go Go.TL
attribute [local irreducible] TR TO Then zao RetK Sound zab Kf GG zaZ
abbrev zck (es:List En)(n q:Int):Blk:=.cells [.t (ensT es),.i n,.i q]
abbrev ziE (n q c:Int):SV:=.ifc 119 (.t (.ag [T.i n,T.i q,T.i c]))
abbrev LS (f:FuncId)(args:List SV)(es:List En)(n q c:Int):Prop:=Sound Tryz.prog f (.ref 0 0::args) [zck es n q] (Err c (.tup []) (ziE n q c) [zck es n q])
theorem retF{rs:List ResultVar}{env:Env}{H:Heap}{es:List En}{n q c c':Int}(h0:c'≠0)(hc:c'=c)(hN:Nat.ble 1 H.length=true)(hb:zad H.length H=true):
  RetK tab rs 1 (Err0 c (.tup []) (ziE n q c) [zck es n q] 1) (.panic (ziE n q c')) env H:=by
 subst hc;exact RetK.errP h0 hN rfl hb
theorem retN{env:Env}{H:Heap}{es:List En}{n q c:Int}(hc:c=0)(hk:Nat.ble 1 H.length=true)(ht:H.take 1=[zck es n q]):
  RetK tab [] 1 (Err0 c (.tup []) (ziE n q c) [zck es n q] 1) .normal env H:=RetK.errN (vs:=[]) hc rfl (Le.refl _) rfl hk rfl ht rfl
theorem we{G Q1 Q2:Prop}{f:FuncId}{cargs:List SV}{v pv:SV}{c:Int}{Hc H1:Heap}(hs:Sound Tryz.prog f cargs Hc (Err c v pv H1))(k1:Q1)(k2:Q2)(h:Sound Tryz.prog f cargs Hc (Err c v pv H1)->Hold Q1->Hold Q2->G:=by
  intro hs k1 k2
  first
  | (apply TO.zkH 1 hs;(iterate 3 exact rfl);exact zqb;(iterate 9 exact rfl);exact k1.p;exact k2.p)
  | (apply TO.zkH 2 hs;(iterate 3 exact rfl);exact zqb;(iterate 9 exact rfl);exact k1.p;exact k2.p)):G:=h hs ⟨k1⟩ ⟨k2⟩
theorem zrc(es:List En)(n q e:Int):Sound Tryz.prog 71 [.ref 0 0,.b true,.i e] [zck es n q] (fun r H'=>r= .ret (.tup [])/\H'=[zck es n q]):=by
 refine so Tryz.func71 ?_
 repeat' (first|refine wu ?_|exact wkc|intro hc|refine wk2 ?_ ?_|fail)
 exact RetK.ziH 1 (vs:=[]) rfl (Le.refl _) rfl rfl rfl rfl rfl ⟨rfl,rfl⟩
theorem zrb(es:List En)(n q e:Int)(he:e≠0):LS 71 [.b false,.i e] es n q e:=by
 refine Sound.err rfl (fun _=>rfl) ?_
 refine so Tryz.func71 ?_
 repeat' (first|refine wu ?_|exact wkc|intro hc|refine wk2 ?_ ?_|(apply TO.makeInterface;exact rfl;kernel_rfl;exact rfl)|(apply TO.panic;exact rfl)|fail)
 exact retF he rfl rfl rfl
section
variable {n:Nat}{env:Env}{K:TK}{all:Array Oper}{rest:List Oper}{d:Nat}{ty:TypeId}{pos:String}{aft:Array Edge}{es:List En}{a q e:Int}{H Hr:Heap}{args:Array Operand}{ts:Array TypeId}
theorem TO.zwH(hd:Nat.ble (d+1) n=true)(ha:env.vals args.toList=some [.ref 0 0,.b true,.i e])(h1:H=zck es a q::Hr)(k:TO false Tryz.prog n all rest ((d,.tup [])::env) H K):
  TO false Tryz.prog n all (⟨some d,.call { callee:=.value (.func 71),args:=args,argTypes:=ts },ty,pos,aft,none⟩::rest) env H K:=by
 subst h1
 exact TO.zaE 1 (zrc es a q e) hd rfl ha ⟨Le.refl _,Le.refl _,Le.refl _,trivial⟩ (by simp) rfl rfl rfl rfl rfl rfl (by simp[za6]) k
theorem TO.zvJ(hd:Nat.ble (d+1) n=true)(ha:env.vals args.toList=some [.ref 0 0,.b false,.i e])(h1:H=zck es a q::Hr)(he:e≠0)(k:K (.panic (ziE a q e)) env (.dead::Hr)):
  TO false Tryz.prog n all (⟨some d,.call { callee:=.value (.func 71),args:=args,argTypes:=ts },ty,pos,aft,none⟩::rest) env H K:=by
 subst h1
 exact TO.zkH 1 (zrb es a q e he) hd rfl ha ⟨Le.refl _,Le.refl _,Le.refl _,trivial⟩ (by simp) rfl rfl rfl rfl rfl rfl rfl (by simp[za6];rfl) (fun h=>absurd h he) (fun _=>k)
end
theorem wm{G Q:Prop}(k:Q)(h:Hold Q->G:=by
  intro k
  first
  | (apply Go.Proofs.YtpnnpgbaiobbjaaGreatDoor.TO.zwH;(iterate 3 exact rfl);exact k.p)
  | (apply Go.Proofs.YtpnnpgbaiobbjaaGreatDoor.TO.zvJ;(iterate 3 exact rfl);decide;exact k.p)
  | (apply Go.Proofs.YtpnnpgbaiobbjaaGreatDoor.TO.zvJ;(iterate 3 exact rfl);assumption;exact k.p)):G:=h ⟨k⟩
theorem zbD(es:List En)(n q:Int)(s:Str):LS 122 [.s s] es n q (zcw s):=by
 refine Sound.err rfl (fun _=>rfl) ?_
 have hi:=zhO s
 unfold zcw
 refine so Tryz.func122 ?_
 repeat' (first|refine wu ?_|exact wkc|intro hc|refine wk2 ?_ ?_|refine wb hi ?_ ?_|refine wm ?_|fail)
 ·exact retN (if_pos hc) rfl rfl
 ·apply retF
  ·decide
  ·rw[if_neg (by simp[hc])]
  ·exact rfl
  ·exact rfl
theorem ze8(es:List En)(n q e:Int):LS 126 [.i e] es n q e:=by
 refine Sound.err rfl (fun _=>rfl) ?_
 refine so Tryz.func126 ?_
 repeat' (first|refine wu ?_|exact wkc|intro hc|refine wk2 ?_ ?_|refine wm ?_|fail)
 ·exact retN hc rfl rfl
 ·exact retF hc rfl rfl rfl
end Go.Proofs.YtpnnpgbaiobbjaaGreatDoor
