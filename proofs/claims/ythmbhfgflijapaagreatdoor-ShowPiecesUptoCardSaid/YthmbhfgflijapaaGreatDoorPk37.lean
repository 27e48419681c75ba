import Derived.Test.YthmbhfgflijapaaGreatDoorPk36
set_option linter.all false
namespace Go.Proofs.YthmbhfgflijapaaGreatDoor
open Go Go.TL
attribute [local irreducible] TR TO Then zag RetK Sound zab Kf GG zaK
def zeL(u:En):Str:=za3 0 ([116,121,112,101,32]++u.name++[32,61,32]++Go.Lib.join u.tags [32,124,32]++[59])
def zk5(p:Prog):Str:=zaj zeL p.enums++zaj (zbt p.enums) p.nodes
def zhV(p:Prog):Str×Int:=if(za7 p).2=0 then(zk5 p,0) else([],(za7 p).2)
structure ShEn (u:En):Prop where
 name:u.name.length≤3000000
 few:u.tags.length≤1000
 tags:∀t∈u.tags,t.length≤3000000
theorem ShEn.len{u:En}(h:ShEn u):(Go.Lib.join u.tags [32,124,32]).length≤3000003000:=
 qaq (zcF [32,124,32] 3000000 _ h.tags) (qaq (qaD _ h.few) (by decide))
structure ShPr (p:Prog):Prop where
 es:ShE p.enums
 ty:∀t:Int,(zdV p.enums t).1.length≤3000000
 enums:∀u∈p.enums,ShEn u
 fewE:p.enums.length≤1000000
 nodes:∀n∈p.nodes,ShNo n
 fewN:p.nodes.length≤1000000
 len:(zk5 p).length≤1000000000
end Go.Proofs.YthmbhfgflijapaaGreatDoor
namespace Go.Proofs.YthmbhfgflijapaaGreatDoor
open Go Go.TL Go.RowKit
theorem zro(Hc:Heap)(ib ir off:Nat)(cs:List SV)(l:Str)(hl:l.length≤1000000000)(hc:Hc[ib]?=some (.cells cs))(hrw:Hc[ir]?=some (.row 5 (zca l)))(h1:cs[off+1]?=some (.rw ir l.length)):
  Sound Tryz.prog 32 [.ref ib off] Hc (fun r _=>r= .ret (.s l)):=by
 refine⟨⟨_,Tryz.func32,by kernel_rfl,rfl⟩,fun m vs hH hm ha=>?_⟩
 obtain⟨hs,ha⟩:=ha
 obtain⟨x,rfl⟩:∃x,vs= #[x]:=by
  match vs,hs with
  | ⟨[x]⟩,_=>exact⟨x,rfl⟩
 have hx:=ha 0 _ x rfl rfl
 cases hx with
 | ref _ _ p hp hn=>
 have hH0:m.H[ib]?=some (.cells cs):=by rw[hH];exact hc
 have hH1:m.H[ir]?=some (.row 5 (zca l)):=by rw[hH];exact hrw
 obtain⟨b1,b2,b3⟩:=hm.blk ib p _ hp hH0
 obtain⟨y,hy,_,hr⟩:=b3 _ _ h1
 cases hr with
 | rw _ _ _ p1 hp1 _ ho=>
 obtain⟨_,hh⟩:=ho _ (by rw[hH1];rfl)
 obtain⟨ad,cap,rfl,hlc,hlo,hhi,had⟩:=hh (zbf l).symm
 obtain⟨⟨_,r2,r3⟩,r4,r5⟩:=hm.blk ir p1 _ hp1 hH1
 rw[zbf]at r2
 have same:∀(w':World),w'=m.w.drew->l=[]->∃(m':M) (r:Res),m'.w=w'/\Step m m'/\HRel m'/\zbX m' r (.returned (.string ⟨#[]⟩))/\r= .ret (.s l):=by
  rintro w' rfl rfl
  obtain⟨s,hm'⟩:=zcJ hm (zog m.w)
  exact⟨_,.ret (.s []),rfl,s,hm',.t _ _ (.v _),rfl⟩
 by_cases h0:l=[]
 ·cases ad with
  | none=>
    simp only at had
    subst had
    subst h0
    refine Calls.mono (zj6 p.b (p.lo+off) m.w hy) ?_
    rintro e w' ⟨rfl,rfl⟩
    exact same _ rfl rfl
  | some a=>
    simp only at had
    obtain⟨rfl,hc0⟩:=had
    subst h0
    refine Calls.mono (zj8 p.b (p.lo+off) p1.b cap hc0 m.w hy) ?_
    rintro e w' ⟨rfl,rfl⟩
    exact same _ rfl rfl
 ·have hpos:0<l.length:=qba.2 h0
  cases ad with
  | none=>
    simp only at had
    omega
  | some a=>
    simp only at had
    obtain⟨rfl,hc0⟩:=had
    refine Calls.mono (zj7 p.b (p.lo+off) p1.b cap p1.hi l h0 m.w hy hlc (by omega) (r3 (by omega)) (by omega) (fun j c hj=>?_)) ?_
    ·obtain⟨z,z1,_,z2⟩:=r5 j (zsJ c) (by simp[zca,hj])
     rw[zbv,<-hlo,z1]
     cases z2
     rfl
    ·rintro e w' ⟨rfl,rfl⟩
     obtain⟨s,hm'⟩:=zsl (w':=m.w.drew.freeze ⟨p1.b,0,none⟩ l.length) (k:=l.length) hm hp1 hH1 (by unfold World.freeze;split <;> rfl) (by unfold World.freeze;split <;> rfl) (by unfold World.freeze;split <;> rfl) (by unfold World.freeze;split <;> rfl) r2
     exact⟨_,.ret (.s l),rfl,s,hm',.t _ _ (.v _),rfl⟩
end Go.Proofs.YthmbhfgflijapaaGreatDoor
namespace Go.Proofs.YthmbhfgflijapaaGreatDoor
open Go Go.TL
attribute [local irreducible] TR TO Then zag RetK Sound zab Kf GG zaK
abbrev glH (a:Bool)(b:Blk)(es:List En)(l:Str):Heap:=[b,symB,.cells [.t (ensT es),.mp 1,bif a then .tref lnT 4 2 2 else .t (.v (.pointer none)),.rw 3 l.length],.row 5 (zca l)]
theorem zrO(a:Bool)(b:Blk)(es:List En)(l:Str):Hands (glH a b es l) [1,2,3] (lnH a es l):=by
 cases a
 all_goals
  refine⟨by decide,by simp,rfl,fun j i c hj hc=>?_,fun j c hc=>?_⟩
  ·rcases j with _|_|_|j
   ·simp[lnH]at hj hc;subst hj hc;rfl
   ·simp[lnH]at hj hc;subst hj hc;rfl
   ·simp[lnH]at hj hc;subst hj hc;rfl
   ·simp at hj
  ·rcases j with _|_|_|j
   ·simp[lnH]at hc;subst hc;rfl
   ·simp[lnH]at hc;subst hc;rfl
   ·simp[lnH]at hc;subst hc;rfl
   ·simp[lnH]at hc
section rules
variable {n:Nat}{env:Env}{H:Heap}{K:TK}{all:Array Oper}{rest:List Oper}{d:Nat}{ty:TypeId}{pos:String}{aft:Array Edge}
theorem TO.lnC{a:Bool}{b:Blk}{es:List En}{t t':Str}{fid:FuncId}{cargs:List SV}{vs:List SV}{f:Operand}{args:Array Operand}{ts:Array TypeId}(hs:Sound Tryz.prog fid (.tref lnT 4 1 0::cargs) (lnH a es t) (fun r H'=>r= .ret (.tup [])/\H'=ln1 es t'))(hd:Nat.ble (d+1) n=true)(hf:env.val f=some (.fn fid []))(ha:env.vals args.toList=some vs)
  (hl:Les (vs++[]) (rens (names [1,2,3] 4) (.tref lnT 4 1 0::cargs)))(hu:unders 3 (.tref lnT 4 1 0::cargs)=true)
  (k:TO false Tryz.prog n all rest ((d,.tup [])::env) (glH true b es t') K):
  TO false Tryz.prog n all (⟨some d,.call { callee:=.value f,args:=args,argTypes:=ts },ty,pos,aft,none⟩::rest) env (glH a b es t) K:=
 TO.zds [1,2,3] (v':=.tup []) (H':=glH true b es t') hs hd hf ha hl (by cases a <;> exact hu) (zrO a b es t) rfl (by cases a <;> rfl) k
theorem TO.boxT{t:TypeId}{x:Operand}{v:SV}{cs:List SV}(hd:Nat.ble (d+1) n=true)(hx:env.val x=some v)(hv:v.solid=true)(hc:v.cells=cs)
  (k:TO false Tryz.prog n all rest ((d,.tref t cs.length H.length 0)::env) (H++[.cells cs]) K):TO false Tryz.prog n all (⟨some d,.box t x,ty,pos,aft,none⟩::rest) env H K:=
 TO.eff hd (fun m ac h1 h2 h3=>by
  obtain⟨g1,g0,g2⟩:=(h3.val hx).cells hv
  rw[hc]at g1 g2
  obtain⟨s,hm'⟩:=zeA h2 cs (ac.eval x).cells t (by omega) g0 g2
  have hsz:(ac.eval x).cells.size=cs.length:=by omega
  refine⟨.pointer (some ⟨m.w.heap.size,0,none⟩),_,?_,s,hm',by rw[h1],?_⟩
  ·simp[execOp,Instr.box,newVar,newRow]
  ·rw[<-h1]
   exact SRel.tref (m:=⟨m.A,m.β++[⟨m.w.heap.size,0,(ac.eval x).cells.size⟩],m.H++[.cells cs],m.w.alloc (.cells (ac.eval x).cells t)⟩) t cs.length m.H.length 0 ⟨m.w.heap.size,0,(ac.eval x).cells.size⟩
    (by simp[h2.len]) (by intro q;simp[tlOf]) rfl (by rw[<-hsz];exact World.shape?_alloc_at _ _ _ rfl)) k
end rules
set_option maxHeartbeats 16000000 in
theorem zeU (p:Prog) (hw:(T.ag (za8 p)).w≤1000000000) (h0:(za7 p).2=0->ShPr p):Pure Tryz.prog 12 [.t (.ag (za8 p))] (.tup [.s (zhV p).1,.i (zhV p).2]):=by
 have hsh:=zgt p hw
 unfold zhV
 by_cases hz:(za7 p).2=0
 ·rw[if_pos hz]
  rw[hz]at hsh
  have hp:=h0 hz
  have hbl:=hp.len
  have hbl0:=hp.len
  unfold zk5 at hbl
  rw[qad]at hbl
  have hpe:zk5 p=zaj zeL p.enums++zaj (zbt p.enums) p.nodes:=rfl
  rw[hpe]at hbl0
  rw[hpe]
  clear hpe
  have hfe:=hp.fewE
  have hfn:=hp.fewN
  have hm1:(p.enums.map enT).length=p.enums.length:=qab _
  have hm2:(p.nodes.map nodT).length=p.nodes.length:=qab _
  unfold za8 at*
  generalize (za7 p).1=x1 at*
  refine so Tryz.func12 ?_
  repeat' (first|refine wkt ?_|refine wv hsh ?_|(apply TO.newW;(iterate 3 exact rfl))|(apply TO.boxT (t:=lnT);(iterate 4 exact rfl))|exact wkc|intro hc|refine wk2 ?_ ?_|fail)
  clear hsh
  apply TR.zgV 5 2 3
  ·exact rfl
  ·exact rfl
  ·exact rfl
  repeat' (first|refine wkt ?_|exact wkc|intro hc|refine wk2 ?_ ?_|fail)
  refine TR.zaA p.enums.length (fun _=>True) (fun j=>[(1,.cp [.sl 2 (p.enums.map enT),zbB p.nodes] 0),(6,.tref lnT 4 2 0),(25,.t (.sl 2 (p.enums.map enT))),(26,.i p.enums.length),(27,.i j)]) (fun j=>glH (!Nat.beq j 0) (.cells [.t (ensT p.enums),.mp 1]) p.enums (zaj zeL (p.enums.take j))) trivial (fun j hlt _=>?_) (fun _=>?_) ⟨rfl,rfl,rfl,by rw[<-hm1];rfl,rfl,trivial⟩ rfl
  ·have hx:(p.enums.map enT)[j]?=some (.ag [.s p.enums[j].name,.sl 1 (p.enums[j].tags.map T.s)]):=zbj enT hlt
   have htk:=zbr hlt
   have hfl:=zb9 zeL p.enums (j+1)
   rw[htk,zaR,qad]at hfl
   have hj1:zaj zeL (p.enums.take (j+1))=zaj zeL (p.enums.take j)++zeL p.enums[j]:=by rw[htk,zaR]
   have hu:=hp.enums _ (qaf hlt)
   have hnl:=hu.name
   have hjl:=hu.len
   have hjn:=zcs p.enums[j].tags [32,124,32] (qaq hu.few (by decide)) (qaq hjl (by decide))
   have hee:zeL p.enums[j]=za3 0 ([116,121,112,101,32]++p.enums[j].name++[32,61,32]++Go.Lib.join p.enums[j].tags [32,124,32]++[59]):=rfl
   have hadd:=zcm (!Nat.beq j 0) p.enums (zaj zeL (p.enums.take j)) ([116,121,112,101,32]++p.enums[j].name++[32,61,32]++Go.Lib.join p.enums[j].tags [32,124,32]++[59]) 0 (by decide) (by rw[<-hee];omega)
   rw[<-hee]at hadd
   clear hee hu
   have hms:(p.enums[j].tags.map T.s).length=p.enums[j].tags.length:=qab _
   generalize zeL p.enums[j]=ln at*
   generalize zaj zeL (p.enums.take j)=acc at*
   generalize Go.Lib.join p.enums[j].tags [32,124,32]=jn at*
   generalize p.enums[j]=u at*
   have hbj:(!Nat.beq (j+1) 0)=true:=rfl
   generalize (!Nat.beq j 0)=a at*
   repeat' (first|refine wkt ?_|refine zqf ?_|exact wkc|intro hc|refine wk2 ?_ ?_|fail)
   apply TR.zfa (envF:=_) (HF:=glH true (.cells [.t (ensT p.enums),.mp 1]) p.enums (acc++ln)) [(_,false),(_,false),(_,false),(_,false),(_,false),(_,false),(_,false),(_,false),(_,false),(_,false),(_,true)] [glH a (.cells [.t (ensT p.enums),.mp 1]) p.enums acc,glH true (.cells [.t (ensT p.enums),.mp 1]) p.enums (acc++ln)] hmix
   case hB=>(dsimp only[List.map];decide +kernel)
   case h0=>exact rfl
   case hF=>exact rfl
   case hp=>
    repeat' (first|(refine qai (fun H hH env=>?_) ?_;rcases zmf hH with rfl|rfl)|refine qai (fun env=>?_) ?_|refine wma ?_|refine wmv hjn ?_|(apply TO.lnC hadd;(iterate 3 exact rfl);exact Les.refl _;exact rfl)|(apply TO.cat;(iterate 3 exact rfl);exact zqd)|exact trivial|exact qai rfl rfl|refine wmk ?_|fail)
    done
   case hE=>exact rfl
   case hK=>
    repeat' (first|refine wu ?_|exact wkc|intro hc|refine wk2 ?_ ?_|fail)
    exact zab.zaI hlt trivial (by(try dsimp only);exact⟨rfl,rfl,rfl,rfl,rfl,trivial⟩) (by(try dsimp only);rw[hj1,hbj])
  rw[qap]
  repeat' (first|refine wkt ?_|refine zab.exit ?_|exact wkc|intro hc|refine wk2 ?_ ?_|fail)
  generalize zaj zeL p.enums=t0 at*
  generalize (!Nat.beq p.enums.length 0)=a0 at*
  refine TR.zaA p.nodes.length (fun _=>True) (fun j=>[(1,.cp [.sl 2 (p.enums.map enT),zbB p.nodes] 0),(6,.tref lnT 4 2 0),(44,.t (zbB p.nodes)),(45,.i p.nodes.length),(46,.i j)]) (fun j=>glH (a0 || !Nat.beq j 0) (.cells [.t (ensT p.enums),.mp 1]) p.enums (t0++zaj (zbt p.enums) (p.nodes.take j))) trivial (fun j hlt _=>?_) (fun _=>?_) ⟨rfl,rfl,rfl,by rw[<-hm2];rfl,rfl,trivial⟩ (by simp[zaj])
  ·have hx:=zj5 hlt
   have htk:=zbr hlt
   have hfl:=zb9 (zbt p.enums) p.nodes (j+1)
   rw[htk,zaR,qad]at hfl
   have hj1:t0++zaj (zbt p.enums) (p.nodes.take (j+1))=t0++zaj (zbt p.enums) (p.nodes.take j)++zbt p.enums p.nodes[j]:=by rw[htk,zaR,qaO]
   have hs:=zml hp.es hp.ty (a0 || !Nat.beq j 0) (t0++zaj (zbt p.enums) (p.nodes.take j)) _ (hp.nodes _ (qaf hlt)) (by
    rw[qad]
    omega)
   have hbj:(a0 || !Nat.beq (j+1) 0)=true:=by cases a0 <;> rfl
   generalize (a0 || !Nat.beq j 0)=a at*
   generalize t0++zaj (zbt p.enums) (p.nodes.take j)=acc at*
   generalize zbt p.enums p.nodes[j]=ln at*
   generalize p.nodes[j]=n at*
   rw[show nodT n= .ag (nodC n) from rfl]at hs
   unfold nodC at hx hs
   repeat' (first|refine wkt ?_|refine zqf ?_|(apply TO.lnC hs;(iterate 3 exact rfl);exact Les.refl _;exact rfl)|exact wkc|intro hc|refine wk2 ?_ ?_|refine wk ?_|fail)
   exact zab.zaI hlt trivial (by(try dsimp only);exact⟨rfl,rfl,rfl,rfl,rfl,trivial⟩) (by(try dsimp only);rw[hj1,hbj])
  ·rw[qap]
   have hS:=zro (glH (a0 || !Nat.beq p.nodes.length 0) (.cells [.t (ensT p.enums),.mp 1]) p.enums (t0++zaj (zbt p.enums) p.nodes)) 2 3 2 _ (t0++zaj (zbt p.enums) p.nodes) hbl0 rfl rfl rfl
   generalize t0++zaj (zbt p.enums) p.nodes=tx at*
   repeat' (first|(intro v H' h;cases h;done)|(intro v H' h;cases h)|refine wkt ?_|refine zab.exit ?_|exact wkc|intro hc|refine wk2 ?_ ?_|(apply TO.zeX hS;(iterate 3 exact rfl);exact⟨Le.refl _,trivial⟩)|refine wk ?_|fail)
   all_goals exact wkr
 ·rw[if_neg hz]
  generalize za7 p=x at*
  unfold za8 at*
  refine so Tryz.func12 ?_
  repeat' (first|refine wu ?_|exact wkc|intro hc|refine wk2 ?_ ?_|refine wv hsh ?_|fail)
  exact wkr
theorem orE0{a b:Int}(h:orE a b=0):a=0/\b=0:=by
 exact zwej
theorem ite0{p:Prop}[Decidable p]{c:Int}(hc:c≠0)(h:(if p then 0 else c)=0):p:=by
 by_cases hp:p
 ·exact hp
 ·rw[if_neg hp]at h;exact absurd h hc
theorem ze2{s:Str}(h:zcb s=0):ident s=true:=ite0 (by decide) h
theorem zaQ{s:Str}(h:ident s=true):s.length≤40/\s≠ []/\∀c∈s,ziM c=true:=by
 unfold ident at h
 split at h
 ·cases h
 ·simp only[qau,decide_eq_true_eq,qaw]at h
  exact⟨h.1.1.1,by simp,h.2⟩
structure OkU (u:En):Prop where
 name:ident u.name=true
 few:u.tags.length≤16
 some:u.tags≠ []
 tags:∀t∈u.tags,ident t=true
structure OkD (es:List En) (d:Decl):Prop where
 name:ident d.name=true
 few:d.clock.length≤4
 ck:∀o∈d.clock,ident o.name=true
structure OkQ (es:List En) (q:Equ):Prop where
 few:q.left.length≤64
 left:∀n∈q.left,ident n=true
 right:za4 es q.right=0
structure OkT (es:List En) (n:Nat) (t:Tran):Prop where
 tgt:0≤t.to.1/\t.to.1<n
 cond:za4 es t.cond=0
structure OkS (es:List En) (n:Nat) (P:Auto->Prop) (s:Sta):Prop where
 name:ident s.name=true
 few:s.locals.length≤256/\s.eqs.length≤256/\s.autos.length≤8/\s.unl.length≤4/\s.unt.length≤4
 locals:∀d∈s.locals,OkD es d
 eqs:∀q∈s.eqs,OkQ es q
 autos:∀a∈s.autos,P a
 unl:∀q∈s.unl,OkT es n q
 unt:∀q∈s.unt,OkT es n q
def OkA(es:List En):Nat->Auto->Prop
 | 0,_=>False
 | m+1,a=>a.states.length≤8/\∀s∈a.states,OkS es a.states.length (OkA es m) s
structure OkN (es:List En) (n:Nod):Prop where
 name:ident n.name=true
 few:n.ins.length≤64/\n.outs.length≤64/\n.locals.length≤256/\n.eqs.length≤256/\n.autos.length≤8/\n.assume.length≤8/\n.ensure.length≤8
 ins:∀d∈n.ins,OkD es d
 outs:∀d∈n.outs,OkD es d
 locals:∀d∈n.locals,OkD es d
 eqs:∀q∈n.eqs,OkQ es q
 autos:∀a∈n.autos,OkA es 3 a
 assume:∀e∈n.assume,za4 es e=0
 ensure:∀e∈n.ensure,za4 es e=0
structure OkP (p:Prog):Prop where
 few:p.enums.length≤24/\p.nodes.length≤96
 enums:∀u∈p.enums,OkU u
 nodes:∀n∈p.nodes,OkN p.enums n
theorem znt{es:List En}{port:Bool}{d:Decl}(h:zfn es port d=0):OkD es d:=by
 unfold zfn at h
 obtain⟨h1,h⟩:=orE0 h
 obtain⟨_,h⟩:=orE0 h
 obtain⟨_,h⟩:=orE0 h
 obtain⟨h2,h⟩:=orE0 h
 exact⟨ze2 h1,ite0 (by decide) h2,fun o ho=>ze2 (orE0 (zah h o ho)).1⟩
theorem zs3{es:List En}{q:Equ}(h:equE es q=0):OkQ es q:=by
 unfold equE at h
 obtain⟨_,h⟩:=orE0 h
 obtain⟨h1,h⟩:=orE0 h
 obtain⟨h2,h⟩:=orE0 h
 exact⟨ite0 (by decide) h1,fun n hn=>ze2 (zah h2 n hn),(orE0 h).1⟩
theorem zs4{es:List En}{n:Nat}{b:Bool}{t:Tran}(h:zfL es n b t=0):OkT es n t:=by
 unfold zfL at h
 obtain⟨h1,h⟩:=orE0 h
 exact⟨ite0 (by decide) h1,(orE0 h).1⟩
theorem zs1{es:List En}:∀(m:Nat) (a:Auto),zdy es m a=0->OkA es m a
 | 0,a,h=>by cases h
 | m+1,a,h=>by
   unfold zdy at h
   obtain⟨_,h⟩:=orE0 h
   obtain⟨h1,h⟩:=orE0 h
   refine⟨ite0 (by decide) h1,fun s hs=>?_⟩
   have h2:=zah h s hs
   unfold stE at h2
   obtain⟨g1,h2⟩:=orE0 h2
   obtain⟨g2,h2⟩:=orE0 h2
   obtain⟨g3,h2⟩:=orE0 h2
   obtain⟨g4,h2⟩:=orE0 h2
   obtain⟨g5,h2⟩:=orE0 h2
   obtain⟨g6,g7⟩:=orE0 h2
   exact⟨ze2 g1,ite0 (by decide) g2,fun d hd=>znt (zah g3 d hd),fun q hq=>zs3 (zah g4 q hq),fun b hb=>zs1 m b (zah g5 b hb),fun q hq=>zs4 (zah g6 q hq),fun q hq=>zs4 (zah g7 q hq)⟩
theorem zvA{es:List En}{n:Nod}(h:(zcu es n).2=0):OkN es n:=by
 unfold zcu at h
 have h1:zl8 es n=0:=qaB fun hh=>by rw[if_pos hh]at h;exact hh h
 rw[if_neg (by simp[h1])]at h
 have h2:zac (equE es) n.eqs=0:=qaB fun hh=>by rw[if_pos hh,zcq]at h;exact hh h
 rw[if_neg (by simp[h2])]at h
 simp only at h
 unfold zqR at h
 obtain⟨g1,h⟩:=orE0 h
 obtain⟨g2,g3⟩:=orE0 h
 unfold zl8 at h1
 obtain⟨f1,h1⟩:=orE0 h1
 obtain⟨f2,h1⟩:=orE0 h1
 obtain⟨_,h1⟩:=orE0 h1
 obtain⟨f3,h1⟩:=orE0 h1
 obtain⟨f4,f5⟩:=orE0 h1
 exact⟨ze2 f1,ite0 (by decide) f2,fun d hd=>znt (zah f3 d hd),fun d hd=>znt (zah f4 d hd),fun d hd=>znt (zah f5 d hd),fun q hq=>zs3 (zah h2 q hq),fun a ha=>zs1 3 a (zah g1 a ha),fun e he=>zah g2 e he,fun e he=>zah g3 e he⟩
theorem zs2{p:Prog}(h:(za7 p).2=0):OkP p:=by
 unfold za7 at h
 have h1:limE p=0:=qaB fun hh=>by rw[if_pos hh]at h;exact hh h
 rw[if_neg (by simp[h1])]at h
 have h2:zac zeK p.enums=0:=qaB fun hh=>by rw[if_pos hh]at h;exact hh h
 rw[if_neg (by simp[h2])]at h
 have h3:zac (fun n=>(zcu p.enums n).2) p.nodes=0:=qaB fun hh=>by rw[if_neg hh]at h;exact hh h
 refine⟨ite0 (by decide) h1,fun u hu=>?_,fun n hn=>zvA (zah h3 n hn)⟩
 have h4:=zah h2 u hu
 unfold zeK at h4
 obtain⟨e1,h4⟩:=orE0 h4
 obtain⟨e2,h4⟩:=orE0 h4
 obtain⟨e3,h4⟩:=orE0 h4
 exact⟨ze2 e1,ite0 (by decide) e3,(fun hc=>by rw[hc]at e2;simp at e2),fun t ht=>ze2 (zah h4 t ht)⟩
theorem zkq{es:List En}{e:Ex}(h:za4 es e=0):wEx e≤400/\∀x∈flat e,oneX x=0:=by
 unfold za4 at h
 split at h
 ·rename_i hc
  unfold zd5 at hc
  split at hc
  ·cases hc
  ·rename_i hd
   exact⟨by omega,zah hc⟩
 ·rename_i hc;exact absurd h hc
theorem zr6{x:Ex}(h:oneX x=0):x.name=[]\/ident x.name=true\/(zea x.name).2=0:=by
 unfold oneX oneI at h
 split at h
 ·cases h
 split at h
 ·cases h
 split at h
 ·split at h
  ·exact .inr (.inl (by assumption))
  ·cases h
 split at h
 ·rename_i hw;exact .inr (.inr hw.2)
 split at h
 ·cases h
 ·rename_i hn
  exact .inl (qaB fun hh=>hn (.inl hh))
theorem zp7{x:Ex}(h:oneX x=0):x.name.length≤66:=by
 rcases zr6 h with h|h|h
 ·rw[h];exact qaJ _
 ·exact qaq (zaQ h).1 (by decide)
 ·unfold zea at h
  split at h
  ·cases h
  ·omega
theorem zeZ{es:List En}{e:Ex}(h:za4 es e=0):ShOk e/\wEx e≤400:=zqE h fun x hx=>qaq (zp7 ((zkq h).2 x hx)) (by decide)
theorem znz{es:List En}{d:Decl}(h:OkD es d):ShD d:=⟨qaq (zaQ h.name).1 (by decide),qaq h.few (by decide),fun o ho=>qaq (zaQ (h.ck o ho)).1 (by decide)⟩
theorem ztc{es:List En}{q:Equ}(h:OkQ es q):ShQ q:=⟨(zeZ h.right).1,(zeZ h.right).2,qaq h.few (by decide),fun o ho=>qaq (zaQ (h.left o ho)).1 (by decide)⟩
theorem zqG{es:List En}{n:Nat}{t:Tran}(h:OkT es n t):ShTr n t:=⟨(zeZ h.cond).1,(zeZ h.cond).2,h.tgt⟩
theorem zqD{es:List En}:∀(m:Nat) (a:Auto),OkA es m a->ShAu m a
 | 0,_,h=>h
 | m+1,a,h=>⟨qaq h.1 (by decide),fun s hs=>by
   obtain⟨f1,f2,f3,f4,f5,f6,f7⟩:=h.2 s hs
   exact⟨qaq (zaQ f1).1 (by decide),fun d hd=>znz (f3 d hd),by omega,fun d hd=>ztc (f4 d hd),by omega,fun d hd=>zqD m d (f5 d hd),by omega,fun d hd=>zqG (f6 d hd),by omega,fun d hd=>zqG (f7 d hd),by omega⟩⟩
theorem zuC{es:List En}{n:Nod}(h:OkN es n):ShNo n:=by
 obtain⟨f1,f2,f3,f4,f5,f6,f7,f8,f9⟩:=h
 exact⟨qaq (zaQ f1).1 (by decide),fun d hd=>znz (f3 d hd),by omega,fun d hd=>znz (f4 d hd),by omega,fun d hd=>znz (f5 d hd),by omega,fun d hd=>ztc (f6 d hd),by omega,fun d hd=>zqD 3 d (f7 d hd),by omega,fun d hd=>zeZ (f8 d hd),by omega,fun d hd=>zeZ (f9 d hd),by omega⟩
structure OkE (es:List En):Prop where
 few:es.length≤24
 all:∀u∈es,OkU u
theorem OkE.sh{es:List En}(h:OkE es):ShE es:=⟨qaq h.few (by decide),fun u hu=>qaq (h.all u hu).few (by decide),fun u hu t ht=>qaq (zaQ ((h.all u hu).tags t ht)).1 (by decide)⟩
theorem zps{es:List En}(h:OkE es)(t:Int):(za5 es t).1.name=[]\/ident (za5 es t).1.name=true:=by
 unfold za5
 split
 ·rename_i hc
  cases hq:es[(t-3).toNat]? with
  | none=>exact .inl (by simp_all)
  | some u=>exact .inr (by simpa [hq]using (h.all u (qas hq)).name)
 ·exact .inl rfl
theorem znn{es:List En}(h:OkE es)(t:Int):(zdV es t).1.length≤40:=by
 unfold zdV
 split
 ·decide
 split
 ·decide
 ·rcases zps h t with hh|hh
  ·rw[hh];exact qaJ _
  ·exact(zaQ hh).1
theorem zq5{es:List En}(h:OkE es)(t v:I64):(valS es t.1 v.1).length≤66+30:=by
 unfold valS ziv
 split
 ·exact qaJ _
 split
 ·exact qaJ _
 split
 ·split
  ·exact leB
  ·exact leB
 split
 ·have:=zng v
  dsimp only
  omega
 ·dsimp only
  rename_i h1 h2 h3 h4
  cases hx:(za5 es t.1).1.tags[v.1.toNat]? with
  | none=>exact qaJ _
  | some g=>
    have hg:=qas hx
    obtain⟨g1,g2,g3,g4⟩:=zhp (by simpa using h1) h3 h4
    rw[g4]at hg
    have:=(zaQ ((h.all _ (qaf g3)).tags g hg)).1
    simp only[qbm]
    omega
theorem zcI{α:Type}{g:α->Str}{f:α->T}{sz c:Nat}:∀ {l:List α},(∀x∈l,(g x).length≤c*(f x).w)->(zaj g l).length≤c*((l.map f).map T.w).sum
 | [],_=>qaJ _
 | x::l,h=>by
   have h1:=h x (qak ..)
   have h2:=zcI (sz:=sz) (f:=f) (g:=g) (c:=c) (l:=l) fun y hy=>h y (qan _ hy)
   have:zaj g (x::l)=g x++zaj g l:=by simp[zaj]
   rw[this,qad,qah,qah,qay,Nat.mul_add]
   omega
theorem znh{α:Type}{g:α->Str}{f:α->T}{c:Nat}(sep:Str){l:List α}(h:∀x∈l,(g x).length+sep.length≤c*(f x).w):(Go.Lib.join (l.map g) sep).length≤c*((l.map f).map T.w).sum:=by
 refine qaq (zjs sep _) ?_
 induction l with
 | nil=>exact qaJ _
 | cons x l ih=>
   have h1:=h x (qak ..)
   have h2:=ih fun y hy=>h y (qan _ hy)
   simp only[qah,qay,Nat.mul_add]at h2⊢
   omega
theorem zcY(level:Nat)(s:Str):(za3 level s).length=2*level+s.length+1:=by
 have:=Go.Lib.repeatL_length [32,32] level
 simp only[za3,qad,qal,qaz]at this⊢
 omega
theorem zuA{es:List En}(h:OkE es){e:Ex}(he:za4 es e=0):(shF es 400 e).length+106≤364*(exT e).w:=by
 have h1:=zjI (N:=66) (zq5 h) 400 e (zeZ he).1 fun x hx=>zp7 ((zkq he).2 x hx)
 have h2:=zh8 e
 have:wEx e*(4*66+100)=364*wEx e:=by omega
 omega
theorem ztO{es:List En}(h:OkE es){d:Decl}(hd:OkD es d):(zcE es d).length+2≤400*(zav d).w:=by
 have h1:=(zaQ hd.name).1
 have h2:=znn h d.ty.1
 have h3:=zlv (T.n d.ty)
 have h4:(zfj es d.clock).length≤400*((d.clock.map onT).map T.w).sum:=znh [32] fun o ho=>by
  have a1:=(zaQ (hd.ck o ho)).1
  have a2:=zq5 h o.t o.tag
  have a3:=zlv (onT o)
  exact zwex
 rw[show zav d= .ag [.s d.name,T.n d.ty,.sl 3 (d.clock.map onT)] from rfl,w_ag]
 simp only[qah,qaC,qay,qaQ,w_sl]
 exact zwcb
theorem zjf{es:List En}(h:OkE es){l:List Decl}(hd:∀d∈l,OkD es d):(zcL es l).length≤400*((l.map zav).map T.w).sum:=znh [59,32] fun d hh=>ztO h (hd d hh)
theorem zkO{es:List En}(h:OkE es){level:Nat}(hv:level≤7){l:List Decl}(hd:∀d∈l,OkD es d):(zcd es level l).length≤400*(T.sl 3 (l.map zav)).w:=by
 have h1:=zjf h hd
 rw[w_sl]
 unfold zcd
 split
 ·rw[zcY]
  exact zwfh
 ·exact qaJ _
theorem zsU{es:List En}(h:OkE es){level:Nat}(hv:level≤7){q:Equ}(hq:OkQ es q):(zch es level q).length≤400*(equT q).w:=by
 have h1:=zuA h hq.right
 have h2:(Go.Lib.join q.left [44,32]).length≤400*((q.left.map T.s).map T.w).sum:=by
  have:=znh (g:=fun s=>s) (f:=T.s) (c:=400) [44,32] (l:=q.left) fun x hx=>by
   have:=(zaQ (hq.left x hx)).1
   exact zwfc
  simpa using this
 rw[zae,w_ag]at h1
 rw[show equT q= .ag (.sl 1 (q.left.map T.s)::exC q.right) from rfl,w_ag,qah,qay,w_sl]
 unfold zch lhsS
 rw[zcY]
 split
 ·exact zwfh
 ·exact zwfh
theorem zqX{es:List En}(h:OkE es){level:Nat}(hv:level≤7){word:Str}(hw:word.length≤6){sts:List Sta}(hs:∀s∈sts,ident s.name=true){q:Tran}(hq:OkT es sts.length q):(zdI es level word sts q).length≤400*(zay q).w:=by
 have h1:=zuA h hq.cond
 have h2:(kwS q.resume).length≤10:=by unfold kwS;split <;> decide
 have h3:(((sts[q.to.1.toNat]?).map Sta.name).getD []).length≤40:=by
  cases hx:sts[q.to.1.toNat]? with
  | none=>exact qaJ _
  | some s=>exact(zaQ (hs s (qas hx))).1
 rw[zae,w_ag]at h1
 simp only[exC,qah,qaC,qay,qaQ]at h1
 have h4:=zlv (T.b q.resume)
 rw[show zay q= .ag [T.n q.cond.kind,T.n q.cond.op,T.n q.cond.t,T.n q.cond.v,.s q.cond.name,.sl 6 (q.cond.args.map exT),T.n q.to,.b q.resume] from rfl,w_ag]
 simp only[qah,qaC,qay,qaQ]
 unfold zdI
 exact zweg
theorem zm2{es:List En}(h:OkE es){word:Str}(hw:word.length≤6){e:Ex}(he:za4 es e=0):(zaP es word e).length≤400*(exT e).w:=by
 have h1:=zuA h he
 unfold zaP
 exact zweg
theorem zo5{es:List En}(h:OkE es):∀(m level:Nat) (a:Auto),level+2*m≤7->OkA es m a->(za2 es m level a).length≤400*(zar a).w
 | 0,_,_,_,ha=>ha.elim
 | m+1,level,a,hv,ha=>by
   have hst:=ha.2
   have h1:(zaj (staS es (za2 es m) level a.states) a.states).length≤400*((a.states.map staT).map T.w).sum:=zcI (sz:=6) fun s hs=>by
    obtain⟨f1,f2,f3,f4,f5,f6,f7⟩:=hst s hs
    have hnm:∀s∈a.states,ident s.name=true:=fun s hs=>(hst s hs).name
    have a1:=(zaQ f1).1
    have a2:=zkO h (level:=level+2) (by omega) f3
    have a3:(zaj (zch es (level+2)) s.eqs).length≤400*((s.eqs.map equT).map T.w).sum:=zcI (sz:=7) fun q hq=>zsU h (by omega) (f4 q hq)
    have a4:(zaj (za2 es m (level+2)) s.autos).length≤400*((s.autos.map zar).map T.w).sum:=zcI (sz:=1) fun q hq=>zo5 h m (level+2) q (by omega) (f5 q hq)
    have a5:(zaj (zdI es (level+2) [117,110,108,101,115,115] a.states) s.unl).length≤400*((s.unl.map zay).map T.w).sum:=zcI (sz:=8) fun q hq=>zqX h (by omega) (by decide) hnm (f6 q hq)
    have a6:(zaj (zdI es (level+2) [117,110,116,105,108] a.states) s.unt).length≤400*((s.unt.map zay).map T.w).sum:=zcI (sz:=8) fun q hq=>zqX h (by omega) (by decide) hnm (f7 q hq)
    have a7:=zlv (T.s s.name)
    rw[zjO,w_ag]
    simp only[qah,qaC,qay,qaQ,w_sl]at a2⊢
    simp only[staS,qad,zcY,qal,qaz]
    omega
   rw[zja,w_ag]
   simp only[qah,qaC,qay,qaQ,w_sl]
   simp only[za2,qad,zcY,qal,qaz]
   omega
theorem zug{es:List En}(h:OkE es){n:Nod}(hn:OkN es n):(zbt es n).length≤400*(nodT n).w:=by
 obtain⟨f1,f2,f3,f4,f5,f6,f7,f8,f9⟩:=hn
 have a1:=(zaQ f1).1
 have a2:=zjf h f3
 have a3:=zjf h f4
 have a4:=zkO h (level:=1) (by decide) f5
 have a5:(zaj (zch es 1) n.eqs).length≤400*((n.eqs.map equT).map T.w).sum:=zcI (sz:=7) fun q hq=>zsU h (by decide) (f6 q hq)
 have a6:(zaj (za2 es 3 1) n.autos).length≤400*((n.autos.map zar).map T.w).sum:=zcI (sz:=1) fun q hq=>zo5 h 3 1 q (by decide) (f7 q hq)
 have a7:(zaj (zaP es [97,115,115,117,109,101]) n.assume).length≤400*((n.assume.map exT).map T.w).sum:=zcI (sz:=6) fun q hq=>zm2 h (by decide) (f8 q hq)
 have a8:(zaj (zaP es [101,110,115,117,114,101]) n.ensure).length≤400*((n.ensure.map exT).map T.w).sum:=zcI (sz:=6) fun q hq=>zm2 h (by decide) (f9 q hq)
 have a9:=zlv (T.s n.name)
 rw[show nodT n= .ag [.s n.name,.sl 3 (n.ins.map zav),.sl 3 (n.outs.map zav),.sl 3 (n.locals.map zav),.sl 7 (n.eqs.map equT),.sl 1 (n.autos.map zar),.sl 6 (n.assume.map exT),.sl 6 (n.ensure.map exT)] from rfl,w_ag]
 simp only[qah,qaC,qay,qaQ,w_sl]at a4⊢
 simp only[zbt,zij,qad,zcY,qal,qaz]
 omega
theorem ztR{u:En}(hu:OkU u):(zeL u).length≤400*(enT u).w:=by
 have a1:=(zaQ hu.name).1
 have a2:(Go.Lib.join u.tags [32,124,32]).length≤400*((u.tags.map T.s).map T.w).sum:=by
  have:=znh (g:=fun s=>s) (f:=T.s) (c:=400) [32,124,32] (l:=u.tags) fun x hx=>by
   have:=(zaQ (hu.tags x hx)).1
   exact zwfc
  simpa using this
 rw[show enT u= .ag [.s u.name,.sl 1 (u.tags.map T.s)] from rfl,w_ag]
 simp only[qah,qaC,qay,qaQ,w_sl]
 simp only[zeL,qad,zcY,qal,qaz]
 omega
theorem zvz{p:Prog}(h:OkP p):OkE p.enums:=⟨h.few.1,h.enums⟩
theorem zqF{p:Prog}(h:OkP p)(hw:(T.ag (za8 p)).w≤2200000):ShPr p:=by
 have hE:=zvz h
 refine⟨hE.sh,fun t=>qaq (znn hE t) (by decide),fun u hu=>?_,qaq h.few.1 (by decide),fun n hn=>zuC (h.nodes n hn),qaq h.few.2 (by decide),?_⟩
 ·have hq:=h.enums u hu
  exact⟨qaq (zaQ hq.name).1 (by decide),qaq hq.few (by decide),fun t ht=>qaq (zaQ (hq.tags t ht)).1 (by decide)⟩
 ·have a1:(zaj zeL p.enums).length≤400*((p.enums.map enT).map T.w).sum:=zcI (sz:=2) fun u hu=>ztR (h.enums u hu)
  have a2:(zaj (zbt p.enums) p.nodes).length≤400*((p.nodes.map nodT).map T.w).sum:=zcI (sz:=8) fun u hu=>zug hE (h.nodes u hu)
  rw[w_ag]at hw
  simp only[za8,zbB,qah,qaC,qay,qaQ,w_sl]at hw
  rw[show zk5 p=zaj zeL p.enums++zaj (zbt p.enums) p.nodes from rfl,qad]
  omega
theorem zeu:∀(m:Nat) (e:Ex),wEx e≤m->∀(q:Nat),1≤q->q≤1000000->Pure Tryz.prog 51 [.t (.ag (exC e)),.i q] (.i (min (wEx e) q:Nat)):=by
 intro m
 induction m with
 | zero=>intro e he;have:=zb7 e;omega
 | succ m ih0=>
   intro e he q hq1 hq2
   have hw:=zfN e
   have ih:∀x∈e.args,∀(q:Nat),1≤q->q≤1000000->Pure Tryz.prog 51 [.t (.ag (exC x)),.i q] (.i (min (wEx x) q:Nat)):=fun x hx q h1 h2=>ih0 x (by have:=zcg hx;omega) q h1 h2
   clear ih0
   rw[hw]
   generalize hL:e.args=L at ih⊢
   have hml:(L.map exT).length=L.length:=qab _
   unfold exC
   rw[hL]
   refine so Tryz.func51 ?_
   repeat' (first|refine wu ?_|exact wkc|intro hc|refine wk2 ?_ ?_|fail)
   refine TR.zaA L.length (fun k=>k<1+((L.take k).map wEx).sum) (fun k=>[(1,.i q),(2,.cp [T.n e.kind,T.n e.op,T.n e.t,T.n e.v,.s e.name,.sl 6 (L.map exT)] 0),(5,.i (min (1+((L.take k).map wEx).sum) q:Nat)),(6,.i k)]) (fun _=>[]) (by simp) (fun k hlt hk=>?_) (fun hk=>?_) ⟨rfl,rfl,by rw[show min (1+((L.take 0).map wEx).sum) q=1 from by simp;omega];rfl,rfl,trivial⟩
   ·have hx:=zd3 hlt
    have htk:((L.take (k+1)).map wEx).sum=((L.take k).map wEx).sum+wEx L[k]:=by rw[zbr hlt,qaH,qck];simp
    have hle:((L.take k).map wEx).sum≤(L.map wEx).sum:=by
     conv=>rhs;rw[<-qaV k L]
     rw[qaH,qck];omega
    have hwp:=zb7 L[k]
    have hi:=ih L[k] (qaf hlt)
    generalize L[k]=x at hx htk hwp hi
    generalize hS:((L.take k).map wEx).sum=S at*
    generalize hT:(L.map wEx).sum=W at*
    unfold exC at hx hi
    by_cases hc0:1+S<q
    ·have hn:min (1+S) q=1+S:=by omega
     rw[hn]
     have hi2:=hi (q-(1+S)) (by omega) (by omega)
     rw[show((q-(1+S):Nat):Int)=(q:Int)-((1+S:Nat):Int) from by omega]at hi2
     have hr:((1+S:Nat):Int)+((min (wEx x) (q-(1+S)):Nat):Int)=((min (1+(S+wEx x)) q:Nat):Int):=by omega
     generalize min (wEx x) (q-(1+S))=z at hi2 hr
     have hz:z≤1000000:=by omega
     repeat' (first|refine wu ?_|exact wkc|intro hc|refine wk2 ?_ ?_|refine wv hi2 ?_|fail)
     exact zab.zaI hlt (by rw[htk];omega) ⟨rfl,rfl,by rw[htk,<-hr];rfl,rfl,trivial⟩
    ·have hn:min (1+S) q=q:=by omega
     rw[hn,show min (1+W) q=q from by omega]
     repeat' (first|refine wu ?_|exact wkc|intro hc|refine wk2 ?_ ?_|fail)
     all_goals exact zwcm
   ·rw[qap]
    repeat' (first|refine wu ?_|exact wkc|intro hc|refine wk2 ?_ ?_|fail)
    all_goals exact zwcm
end Go.Proofs.YthmbhfgflijapaaGreatDoor
