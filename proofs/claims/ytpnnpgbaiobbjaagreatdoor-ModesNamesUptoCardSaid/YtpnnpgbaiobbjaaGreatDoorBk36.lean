import Derived.Test.YtpnnpgbaiobbjaaGreatDoorBk35
set_option linter.all false
namespace Go.Proofs.YtpnnpgbaiobbjaaGreatDoor
open Go Go.TL
attribute [local irreducible] TR TO Then zap RetK Sound zab Kf GG za3
def zj9(p:Prog):Bool:=decide (1500≤wgP 1500 p)
theorem zd2(p:Prog)(hw:(T.ag (zax p)).w≤100000000):Pure Tryz.prog 9 [.t (.ag (zax p))] (.b (zj9 p)):=by
 have hs:=zr9 p hw 1500 (by omega) (by omega)
 unfold zj9
 generalize wgP 1500 p=z at*
 unfold zax at*
 by_cases h:1500≤z
 ·rw[decide_eq_true h]
  exact zwcm
 ·rw[decide_eq_false h]
  exact zwcm
theorem orE0{a b:Int}(h:orE a b=0):a=0/\b=0:=by
 exact zwfe
theorem ite0{p:Prop}[Decidable p]{c:Int}(hc:c≠0)(h:(if p then 0 else c)=0):p:=by
 by_cases hp:p
 ·exact hp
 ·rw[if_neg hp]at h;exact absurd h hc
theorem zfe{s:Str}(h:zcG s=0):ident s=true:=ite0 (by decide) h
theorem zqY{s:Str}(h:ident s=true):s.length≤40/\s≠ []/\∀c∈s,zju c=true:=by
 unfold ident at h
 split at h
 ·cases h
 ·simp only[qay,decide_eq_true_eq,qaz]at h
  exact⟨h.1.1.1,by simp,h.2⟩
structure OkU (u:En):Prop where
 name:ident u.name=true
 few:u.tags.length≤16
 some:u.tags≠ []
 tags:∀t∈u.tags,ident t=true
structure OkD (es:List En) (d:Decl):Prop where
 name:ident d.name=true
 few:d.clock.length≤4
 ck:∀o∈d.clock,ident o.name=true
structure OkQ (es:List En) (q:Equ):Prop where
 few:q.left.length≤64
 left:∀n∈q.left,ident n=true
 right:zb5 es q.right=0
structure OkT (es:List En) (n:Nat) (t:Tran):Prop where
 tgt:0≤t.to.1/\t.to.1<n
 cond:zb5 es t.cond=0
structure OkS (es:List En) (n:Nat) (P:Auto->Prop) (s:Sta):Prop where
 name:ident s.name=true
 few:s.locals.length≤256/\s.eqs.length≤256/\s.autos.length≤8/\s.unl.length≤4/\s.unt.length≤4
 locals:∀d∈s.locals,OkD es d
 eqs:∀q∈s.eqs,OkQ es q
 autos:∀a∈s.autos,P a
 unl:∀q∈s.unl,OkT es n q
 unt:∀q∈s.unt,OkT es n q
def OkA(es:List En):Nat->Auto->Prop
 | 0,_=>False
 | m+1,a=>a.states.length≤8/\∀s∈a.states,OkS es a.states.length (OkA es m) s
structure OkN (es:List En) (n:Nod):Prop where
 name:ident n.name=true
 few:n.ins.length≤64/\n.outs.length≤64/\n.locals.length≤256/\n.eqs.length≤256/\n.autos.length≤8/\n.assume.length≤8/\n.ensure.length≤8
 ins:∀d∈n.ins,OkD es d
 outs:∀d∈n.outs,OkD es d
 locals:∀d∈n.locals,OkD es d
 eqs:∀q∈n.eqs,OkQ es q
 autos:∀a∈n.autos,OkA es 3 a
 assume:∀e∈n.assume,zb5 es e=0
 ensure:∀e∈n.ensure,zb5 es e=0
structure OkP (p:Prog):Prop where
 few:p.enums.length≤24/\p.nodes.length≤96
 enums:∀u∈p.enums,OkU u
 nodes:∀n∈p.nodes,OkN p.enums n
theorem zow{es:List En}{port:Bool}{d:Decl}(h:zfz es port d=0):OkD es d:=by
 unfold zfz at h
 obtain⟨h1,h⟩:=orE0 h
 obtain⟨_,h⟩:=orE0 h
 obtain⟨_,h⟩:=orE0 h
 obtain⟨h2,h⟩:=orE0 h
 exact⟨zfe h1,ite0 (by decide) h2,fun o ho=>zfe (orE0 (zaj h o ho)).1⟩
theorem ztM{es:List En}{q:Equ}(h:equE es q=0):OkQ es q:=by
 unfold equE at h
 obtain⟨_,h⟩:=orE0 h
 obtain⟨h1,h⟩:=orE0 h
 obtain⟨h2,h⟩:=orE0 h
 exact⟨ite0 (by decide) h1,fun n hn=>zfe (zaj h2 n hn),(orE0 h).1⟩
theorem ztN{es:List En}{n:Nat}{b:Bool}{t:Tran}(h:zfj es n b t=0):OkT es n t:=by
 unfold zfj at h
 obtain⟨h1,h⟩:=orE0 h
 exact⟨ite0 (by decide) h1,(orE0 h).1⟩
theorem ztJ{es:List En}:∀(m:Nat) (a:Auto),zcs es m a=0->OkA es m a
 | 0,a,h=>by cases h
 | m+1,a,h=>by
   unfold zcs at h
   obtain⟨_,h⟩:=orE0 h
   obtain⟨h1,h⟩:=orE0 h
   refine⟨ite0 (by decide) h1,fun s hs=>?_⟩
   have h2:=zaj h s hs
   unfold stE at h2
   obtain⟨g1,h2⟩:=orE0 h2
   obtain⟨g2,h2⟩:=orE0 h2
   obtain⟨g3,h2⟩:=orE0 h2
   obtain⟨g4,h2⟩:=orE0 h2
   obtain⟨g5,h2⟩:=orE0 h2
   obtain⟨g6,g7⟩:=orE0 h2
   exact⟨zfe g1,ite0 (by decide) g2,fun d hd=>zow (zaj g3 d hd),fun q hq=>ztM (zaj g4 q hq),fun b hb=>ztJ m b (zaj g5 b hb),fun q hq=>ztN (zaj g6 q hq),fun q hq=>ztN (zaj g7 q hq)⟩
theorem zvP{es:List En}{n:Nod}(h:(zce es n).2=0):OkN es n:=by
 unfold zce at h
 have h1:zlr es n=0:=qaq fun hh=>by rw[if_pos hh]at h;exact hh h
 rw[if_neg (by simp[h1])]at h
 have h2:zaf (equE es) n.eqs=0:=qaq fun hh=>by rw[if_pos hh,zcc]at h;exact hh h
 rw[if_neg (by simp[h2])]at h
 simp only at h
 unfold znE at h
 obtain⟨g1,h⟩:=orE0 h
 obtain⟨g2,g3⟩:=orE0 h
 unfold zlr at h1
 obtain⟨f1,h1⟩:=orE0 h1
 obtain⟨f2,h1⟩:=orE0 h1
 obtain⟨_,h1⟩:=orE0 h1
 obtain⟨f3,h1⟩:=orE0 h1
 obtain⟨f4,f5⟩:=orE0 h1
 exact⟨zfe f1,ite0 (by decide) f2,fun d hd=>zow (zaj f3 d hd),fun d hd=>zow (zaj f4 d hd),fun d hd=>zow (zaj f5 d hd),fun q hq=>ztM (zaj h2 q hq),fun a ha=>ztJ 3 a (zaj g1 a ha),fun e he=>zaj g2 e he,fun e he=>zaj g3 e he⟩
theorem ztL{p:Prog}(h:(zbf p).2=0):OkP p:=by
 unfold zbf at h
 have h1:limE p=0:=qaq fun hh=>by rw[if_pos hh]at h;exact hh h
 rw[if_neg (by simp[h1])]at h
 have h2:zaf zfb p.enums=0:=qaq fun hh=>by rw[if_pos hh]at h;exact hh h
 rw[if_neg (by simp[h2])]at h
 have h3:zaf (fun n=>(zce p.enums n).2) p.nodes=0:=qaq fun hh=>by rw[if_neg hh]at h;exact hh h
 refine⟨ite0 (by decide) h1,fun u hu=>?_,fun n hn=>zvP (zaj h3 n hn)⟩
 have h4:=zaj h2 u hu
 unfold zfb at h4
 obtain⟨e1,h4⟩:=orE0 h4
 obtain⟨e2,h4⟩:=orE0 h4
 obtain⟨e3,h4⟩:=orE0 h4
 exact⟨zfe e1,ite0 (by decide) e3,(fun hc=>by rw[hc]at e2;simp at e2),fun t ht=>zfe (zaj h4 t ht)⟩
theorem zs3{l m:List Str}(h:l.Nodup)(hs:∀x∈l,x∈m):l.length≤m.length:=h.length_le_of_subset fun x hx=>hs x hx
theorem zlJ{l:List Str}(h:l.Nodup)(s:Str):(ins l s).Nodup:=by
 unfold ins
 split
 ·exact h
 ·rename_i hn
  rw[qbt]
  exact⟨h,by simp,fun a ha b hb=>by rw[qaJ.1 hb];exact fun e=>hn (e ▸ ha)⟩
theorem zdM{α:Type}{f:List Str->α->List Str}(hf:∀o x,o.Nodup->(f o x).Nodup):∀(l:List α) (o:List Str),o.Nodup->(l.foldl f o).Nodup
 | [],_,h=>h
 | x::l,o,h=>zdM hf l (f o x) (hf o x h)
theorem zmF(m:Nat)(qs:List Equ)(l:List Auto):(zdw m qs l).Nodup:=by
 cases m with
 | zero=>exact qbw
 | succ m=>
   unfold zdw
   refine zdM (fun o a ho=>?_) l _ (zdM (fun o q ho=>zdM (fun o s ho=>zlJ ho s) _ _ ho) _ _ qbw)
   split
   ·exact ho
   ·refine zdM (fun o s ho=>?_) _ _ ho
    unfold defS
    split
    ·exact ho
    ·exact zlJ ho s
theorem zjl(vars:List Decl):∀(l:List Str) (o:List Decl),(l.foldl (defO vars) o).map Decl.name=o.map Decl.name++l.filter (fun s=>decide (0≤idxI (fun d:Decl=>decide (d.name=s)) vars))
 | [],o=>by simp
 | s::l,o=>by
   rw[qaT,zjl vars l,qcw]
   unfold defO
   by_cases h:0≤idxI (fun d:Decl=>decide (d.name=s)) vars
   ·simp[h]
   ·simp[h]
theorem zuz{vars:List Decl}{s:Str}(h:0≤idxI (fun d:Decl=>decide (d.name=s)) vars):s∈vars.map Decl.name:=by
 induction vars with
 | nil=>exact absurd h (by unfold idxI;simp)
 | cons d l ih=>
   by_cases hd:d.name=s
   ·rw[qaj,hd]
    exact qas ..
   ·refine qar _ (ih ?_)
    unfold idxI at h
    rw[if_neg (by simpa using hd)]at h
    by_cases hx:idxI (fun d:Decl=>decide (d.name=s)) l<0
    ·rw[if_pos hx]at h
     omega
    ·omega
theorem zfa(vars:List Decl)(au:Auto):((zaZ vars au).map Decl.name).Nodup/\∀s∈(zaZ vars au).map Decl.name,s∈vars.map Decl.name:=by
 unfold zaZ
 rw[zjl,qaw,qa7]
 refine⟨(zmF _ _ _).filter _,fun s hs=>?_⟩
 exact zuz (of_decide_eq_true (qbR.1 hs).2)
theorem zhj(vars:List Decl)(au:Auto):(zaZ vars au).length≤vars.length:=by
 have h:=zs3 (zfa vars au).1 (zfa vars au).2
 rwa [qaa,qaa]at h
theorem zof(vars:List Decl):∀(l:List Str) (o:List Decl),(∀d∈o,d.clock=[])->∀d∈l.foldl (defO vars) o,d.clock=[]
 | [],_,h=>h
 | s::l,o,h=>zof vars l _ fun d hd=>by
   unfold defO at hd
   exact zwdq
theorem zlb(vars:List Decl)(au:Auto):∀d∈zaZ vars au,d.clock=[]:=zof vars _ _ (by simp)
theorem zkb(rd:List Str)(defs:List Decl):∀(l o:List Decl),(∀d∈o,d.clock=[])->∀d∈l.foldl (insF rd defs) o,d.clock=[]
 | [],_,h=>h
 | s::l,o,h=>zkb rd defs l _ fun d hd=>by
   unfold insF at hd
   exact zwdq
theorem zoK(t:I64):∀(l:List Tran) (u:List Str×Bd),(l.foldl (untF t) u).2.locals.length=u.2.locals.length+l.length/\(l.foldl (untF t) u).2.eqs.length=u.2.eqs.length+l.length/\∀d∈(l.foldl (untF t) u).2.locals,d∈u.2.locals\/d.clock=[]
 | [],u=>⟨rfl,rfl,fun d hd=>.inl hd⟩
 | x::l,u=>by
   obtain⟨h1,h2,h3⟩:=zoK t l (untF t u x)
   rw[qaT]
   refine⟨?_,?_,fun d hd=>?_⟩
   ·rw[h1,show(untF t u x).2.locals.length=u.2.locals.length+1 by simp[untF],qam];omega
   ·rw[h2,show(untF t u x).2.eqs.length=u.2.eqs.length+1 by simp[untF],qam];omega
   ·rcases h3 d hd with h|h
    ·rcases qaF.1 (show d∈u.2.locals++[_] from h)with h|h
     ·exact .inl h
     ·rw[qaJ.1 h];exact .inr rfl
    ·exact .inr h
theorem zsn{a:Auto}{s:Sta}{b:Auto}(hs:s∈a.states)(hb:b∈s.autos):(zae b).w≤(zae a).w:=by
 have h1:=zau (f:=zae) (sz:=1) hb
 have h2:=zdQ s
 have h3:=zau (f:=staT) (sz:=6) hs
 have h4:=zbH a
 omega
theorem zqO{α:Type}{c:Nat}:∀ {l:List (List α)},(∀x∈l,x.length≤c)->l.flatten.length≤c*l.length
 | [],_=>qaK _
 | x::l,h=>by
   have h1:=h x (qas ..)
   have h2:=zqO (l:=l) fun y hy=>h y (qar _ hy)
   rw[qbh,qaf,qam,qcm]
   omega
theorem zqF(x:KS)(h:∀s∈x.sts,s.unl.length≤4):(zfE x).length≤4*x.sts.length+x.bodies.length+x.defs.length+6:=by
 have h1:(x.sts.mapIdx (eqU x)).flatten.length≤4*x.sts.length:=by
  have:=zqO (c:=4) (l:=x.sts.mapIdx (eqU x)) fun y hy=>by
   obtain⟨i,hi,rfl⟩:=qbG.1 hy
   have:=h _ (qad hi)
   unfold eqU
   rw[qa3]
   exact this
  rwa [qa3]at this
 unfold zfE zj1 zmL lefts
 simp only[qaf,qa3,qam,qaE,qaa]
 omega
abbrev wsum {α:Type}(f:α->T)(l:List α):Nat:=((l.map f).map T.w).sum
theorem zcX{α:Type}(f:α->T)(a b:List α):wsum f (a++b)=wsum f a+wsum f b:=by simp[wsum]
theorem zaW{α:Type}(f:α->T)(a:α)(b:List α):wsum f (a::b)=(f a).w+wsum f b:=rfl
theorem zdB{α:Type}{f:α->T}{c:Nat}:∀ {l:List α},(∀x∈l,(f x).w≤c)->wsum f l≤c*l.length
 | [],_=>qaK _
 | x::l,h=>by
   have h1:=h x (qas ..)
   have h2:=zdB (f:=f) (c:=c) (l:=l) fun y hy=>h y (qar _ hy)
   rw[zaW,qam,qcm]
   omega
theorem zmb{α β:Type}{f:β->T}{h:α->Nat}:∀ {l:List α} {g:Nat->α->List β},(∀i,∀x∈l,wsum f (g i x)≤h x)->wsum f (l.mapIdx g).flatten≤(l.map h).sum
 | [],_,_=>qaK _
 | x::l,g,hg=>by
   have h1:=hg 0 x (qas ..)
   have h2:=zmb (f:=f) (h:=h) (l:=l) (g:=fun i=>g (i+1)) fun i y hy=>hg (i+1) y (qar _ hy)
   rw[qcx,qbh,zcX,qaj,qan]
   omega
theorem znM{α:Type}(sz:Nat)(f:α->T)(l:List α):(T.sl sz (l.map f)).w=1+wsum f l:=w_sl sz _
theorem w_n(k:I64):(T.n k).w=1:=by show(T.v _).w=1;rw[T.w];rfl
theorem zr2(d:Decl):(zaa d).w=4+d.name.length+wsum onT d.clock:=by
 rw[show zaa d= .ag [.s d.name,T.n d.ty,.sl 3 (d.clock.map onT)] from rfl,w_ag]
 exact zwew
theorem zwX(o:OnC):(onT o).w=4+o.name.length:=by
 rw[show onT o= .ag [.s o.name,T.n o.t,T.n o.tag] from rfl,w_ag]
 simp only[qaj,qaw,qan,qaG,w_s,w_n]
 omega
theorem znL(k o t v:I64)(n:Str)(l:List Ex):(exT (.mk k o t v n l)).w=7+n.length+wsum exT l:=by
 rw[ztC,w_ag]
 exact zwew
theorem zr3(q:Equ):(equT q).w=(exT q.right).w+1+wsum T.s q.left:=by
 rw[show equT q= .ag (.sl 1 (q.left.map T.s)::exC q.right) from rfl,w_ag,qaj,qan,znM,zay,w_ag]
 omega
def Ext(L0 L:List Decl):Prop:=∃A,L=L0++A/\∀d∈A,(zaa d).w≤100
theorem Ext.refl(L:List Decl):Ext L L:=⟨[],by simp,by simp⟩
theorem Ext.w{L0 L:List Decl}(h:Ext L0 L):wsum zaa L+100*L0.length≤wsum zaa L0+100*L.length:=by
 obtain⟨A,rfl,hA⟩:=h
 have:=zdB hA
 rw[zcX,qaf,Nat.mul_add]
 omega
abbrev Sh (s:Str):Prop:=s.length≤40
theorem zlX{a:List Str}{n:Nat}{b:Str}(h:Room a n)(hb:b.length≤9):Sh (zaF a b):=by
 have:=zgk h b
 omega
structure LcOk (L0:List Decl) (n:Nat) (s:Lc):Prop where
 room:Room s.1 n
 ext:Ext L0 s.2
theorem LcOk.mono{L0:List Decl}{n k:Nat}{s:Lc}(h:LcOk L0 n s)(hk:k≤n):LcOk L0 k s:=⟨h.room.mono hk,h.ext⟩
theorem LcOk.loc{L0:List Decl}{n:Nat}{s:Lc}{b:Str}{t:I64}{ck:List OnC}(h:LcOk L0 (n+1) s)(hb:b.length≤9)(hc:∀o∈ck,Sh o.name)(h1:ck.length≤1):LcOk L0 n (locF b t ck s).1/\Sh (locF b t ck s).2:=by
 have hs:=zlX h.room hb
 refine⟨⟨h.room.loc1 (by omega),?_⟩,hs⟩
 obtain⟨A,h2,h3⟩:=h.ext
 refine⟨A++[⟨zaF s.1 b,t,ck⟩],by show s.2++_=_;rw[h2,qa0],fun d hd=>?_⟩
 rcases qaF.1 hd with hd|hd
 ·exact h3 d hd
 ·rw[qaJ.1 hd,zr2]
  have h4:=zdB (f:=onT) (c:=44) (l:=ck) fun o ho=>by rw[zwX];have:=hc o ho;omega
  have h5:44*ck.length≤44*1:=qbl _ h1
  dsimp only
  omega
theorem LcOk.maps{α:Type}{L0:List Decl}{f:Lc->α->Lc×Str}:∀ {l:List α} {s:Lc} {n:Nat},(∀x∈l,∀s n,LcOk L0 (n+1) s->LcOk L0 n (f s x).1/\Sh (f s x).2)->LcOk L0 (l.length+n) s->LcOk L0 n (mapS f s l).1/\∀y∈(mapS f s l).2,Sh y
 | [],s,n,_,h=>⟨h.mono (by simp),by intro y hy;cases hy⟩
 | x::l,s,n,hf,h=>by
   obtain⟨h1,h2⟩:=hf x (qas ..) s (l.length+n) (h.mono (by rw[qam];omega))
   obtain⟨h3,h4⟩:=LcOk.maps (l:=l) (fun y hy=>hf y (qar _ hy)) h1
   refine⟨h3,fun y hy=>?_⟩
   rcases qbd.1 (show y∈(f s x).2::(mapS f (f s x).1 l).2 from hy)with rfl|hy
   ·exact h2
   ·exact h4 y hy
theorem LcOk.cnds{L0:List Decl}:∀ {l:List Sta} {s:Lc} {n:Nat},(∀x∈l,x.unl.length≤4)->LcOk L0 (4*l.length+n) s->LcOk L0 n (zcg s l).1/\∀c∈(zcg s l).2,∀y∈c,Sh y
 | [],s,n,_,h=>⟨h.mono (by simp),by intro y hy;cases hy⟩
 | x::l,s,n,hu,h=>by
   have hx:=hu x (qas ..)
   obtain⟨h1,h2⟩:=LcOk.maps (f:=fun s (_:Tran)=>locF zej bT [] s) (l:=x.unl) (s:=s) (n:=4*l.length+n) (fun x _ s n h=>h.loc (by decide) (by simp) (by simp)) (h.mono (by rw[qam];omega))
   obtain⟨h3,h4⟩:=LcOk.cnds (l:=l) (s:=(cndS s x.unl).1) (n:=n) (fun y hy=>hu y (qar _ hy)) h1
   refine⟨h3,fun c hc=>?_⟩
   rcases qbd.1 (show c∈(cndS s x.unl).2::(zcg (cndS s x.unl).1 l).2 from hc)with rfl|hc
   ·exact h2
   ·exact h4 c hc
theorem zrT:∀ {l:List Sta} {a:List Str} {n:Nat},Room a (l.length+n)->∀y∈(zb7 a l).2,Sh y
 | [],_,_,_,y,hy=>by cases hy
 | x::l,a,n,h,y,hy=>by
   rcases qbd.1 (show y∈(frF a sAt).2::(zb7 (frF a sAt).1 l).2 from hy)with rfl|hy
   ·exact zlX h (by decide)
   ·exact zrT (l:=l) (n:=n) (Room.fr1 (h.mono (by rw[qam];omega)) (by decide)) y hy
structure KW (L0:List Decl) (n:Nat) (x:KS):Prop where
 lc:LcOk L0 n (x.a,x.L)
 was:Sh x.was
 flag:Sh x.flag
 now:Sh x.now
 reset:Sh x.reset
 cs:∀c∈x.cs,∀y∈c,Sh y
 parts:∀c∈x.parts,∀y∈c,Sh y
 defs:∀d∈x.defs,Sh d.name/\d.clock=[]
 names:∀b∈x.bodies,Sh b.name/\∀d∈b.ins,Sh d.name
theorem zsA{vars:List Decl}(hv:∀d∈vars,Sh d.name)(au:Auto):∀d∈zaZ vars au,Sh d.name/\d.clock=[]:=fun d hd=>by
 refine⟨?_,zlb vars au d hd⟩
 obtain⟨e,he,h⟩:=qa2.1 ((zfa vars au).2 d.name (List.mem_map_of_mem hd))
 rw[<-h]
 exact hv e he
theorem KW.start{s:Lc}{es:List En}{c:Nc}{Q:List T}{vars:List Decl}{au:Auto}{n:Nat}(hv:∀d∈vars,Sh d.name)(hl:au.states.length≤8)(hu:∀x∈au.states,x.unl.length≤4)(h:Room s.1 (n+100)):
  KW s.2 n (zb2 s es c Q vars au)/\Sh (dclF s es.length au.states).2.1.name/\∀y∈(dclF s es.length au.states).2.1.tags,Sh y:=by
 have h1:Room (frF s.1 zc5).1 (n+99):=Room.fr1 h (by decide)
 have h2:=zeW au.states _ (n+91) (h1.mono (by omega))
 have h3:LcOk s.2 (n+91) ((zb7 (frF s.1 zc5).1 au.states).1,s.2):=⟨h2,Ext.refl _⟩
 obtain⟨h4,w1⟩:=LcOk.loc (n:=n+90) (b:=sWas) (t:=toI (3+es.length)) (ck:=[]) h3 (by decide) (by simp) (by simp)
 obtain⟨h5,w2⟩:=LcOk.loc (n:=n+89) (b:=zkr) (t:=bT) (ck:=[]) h4 (by decide) (by simp) (by simp)
 obtain⟨h6,w3⟩:=LcOk.cnds (l:=au.states) (n:=n+57) hu (h5.mono (by omega))
 obtain⟨h7,w4⟩:=LcOk.loc (n:=n+56) (b:=sNow) (t:=toI (3+es.length)) (ck:=[]) h6 (by decide) (by simp) (by simp)
 obtain⟨h8,w5⟩:=LcOk.loc (n:=n+55) (b:=zoy) (t:=bT) (ck:=[]) h7 (by decide) (by simp) (by simp)
 exact⟨⟨h8.mono (by omega),w1,w2,w4,w5,w3,(by intro c hc;cases hc),zsA hv au,(by intro b hb;cases hb)⟩,zlX h (by decide),zrT (n:=n+91) (h1.mono (by omega))⟩
theorem zm6(rd:List Str)(defs:List Decl):∀(l o:List Decl),(∀d∈l,Sh d.name)->(∀d∈o,Sh d.name)->∀d∈l.foldl (insF rd defs) o,Sh d.name
 | [],_,_,h=>h
 | s::l,o,hl,h=>zm6 rd defs l _ (fun d hd=>hl d (qar _ hd)) fun d hd=>by
   unfold insF at hd
   split at hd
   ·rcases qaF.1 hd with hd|hd
    ·exact h d hd
    ·rw[qaJ.1 hd]
     exact hl s (qas ..)
   ·exact h d hd
theorem KW.body{L0:List Decl}{n v:Nat}{x:KS}{vars:List Decl}(h:KW L0 (n+(v+9)) x)(hd:x.defs.length≤v)(hv:∀d∈vars,Sh d.name)(i:Nat)(s:Sta)(hu:s.unt.length≤4):KW L0 n (zdT x i s vars):=by
 have h1:=zjf x i s vars (n+(v+2)) hu (h.lc.room.mono (by omega))
 have h2:LcOk L0 (n+(v+2)) ((zcK x i s vars).1,x.L):=⟨h1,h.lc.ext⟩
 have hon:∀o∈[onL x x.now i],Sh o.name:=fun o ho=>by rw[qaJ.1 ho];exact h.now
 obtain⟨h3,w1⟩:=LcOk.maps (f:=fun s (d:Decl)=>locF zi3 d.ty [onL x x.now i] s) (l:=x.defs) (n:=n+2) (fun d _ s n h=>h.loc (by decide) hon (by simp)) (h2.mono (by omega))
 obtain⟨h4,w2⟩:=LcOk.loc (n:=n+1) (b:=zbt) (t:=x.t) (ck:=[onL x x.now i]) h3 (by decide) hon (by simp)
 obtain⟨h5,w3⟩:=LcOk.loc (n:=n) (b:=zcr) (t:=bT) (ck:=[onL x x.now i]) h4 (by decide) hon (by simp)
 refine⟨h5,h.was,h.flag,h.now,h.reset,h.cs,fun c hc=>?_,h.defs,fun b hb=>?_⟩
 ·rcases qaF.1 (show c∈x.parts++[(zhd x i ((zcK x i s vars).1,x.L)).2] from hc)with hc|hc
  ·exact h.parts c hc
  ·rw[qaJ.1 hc]
   intro y hy
   rcases qaF.1 (show y∈(prtS (onL x x.now i) ((zcK x i s vars).1,x.L) x.defs).2++[_,_] from hy)with hy|hy
   ·exact w1 y hy
   ·simp only[qbd,qb8,or_false]at hy
    rcases hy with rfl|rfl
    ·exact w2
    ·exact w3
 ·rcases qaF.1 (show b∈x.bodies++[(zcK x i s vars).2] from hb)with hb|hb
  ·exact h.names b hb
  ·rw[qaJ.1 hb]
   exact⟨zlX h.lc.room (by decide),zm6 (zbM 100000000 s) x.defs vars [] hv (by simp)⟩
theorem KW.bodies{L0:List Decl}{v:Nat}{vars:List Decl}(hv:∀d∈vars,Sh d.name):∀(l:List Sta) (n:Nat) (q:Nat×KS),(∀s∈l,s.unt.length≤4)->KW L0 (n+l.length*(v+9)) q.2->q.2.defs.length≤v->KW L0 n (l.foldl (fun(p:Nat×KS) s=>(p.1+1,zdT p.2 p.1 s vars)) q).2
 | [],n,q,_,h,_=>by simpa using h
 | s::l,n,q,hu,h,hd=>by
   rw[qaT]
   refine KW.bodies hv l n _ (fun t ht=>hu t (qar _ ht)) (KW.body (v:=v) ?_ hd hv q.1 s (hu s (qas ..))) hd
   exact zwgm
theorem KW.auto{s:Lc}{es:List En}{c:Nc}{Q:List T}{vars:List Decl}{au:Auto}{n v:Nat}(hv:∀d∈vars,Sh d.name)(hl:au.states.length≤8)(hu:∀x∈au.states,x.unl.length≤4/\x.unt.length≤4)(hd:(zaZ vars au).length≤v)(h:Room s.1 (n+(v*8+200))):
  KW s.2 n (zbA s es c Q vars au)/\Sh (zbA s es c Q vars au).next/\Sh (zbA s es c Q vars au).back:=by
 have hm:au.states.length*(v+9)≤8*(v+9):=qaD _ hl
 obtain⟨h1,_,_⟩:=KW.start (s:=s) (es:=es) (c:=c) (Q:=Q) (vars:=vars) (au:=au) (n:=n+2+au.states.length*(v+9)) hv hl (fun x hx=>(hu x hx).1) (h.mono (by omega))
 have h2:=KW.bodies hv au.states (n+2) (0,zb2 s es c Q vars au) (fun x hx=>(hu x hx).2) h1 hd
 unfold zbA zcZ
 dsimp only
 generalize (au.states.foldl (fun(p:Nat×KS) s=>(p.1+1,zdT p.2 p.1 s vars)) (0,zb2 s es c Q vars au)).2=x at*
 obtain⟨h3,w1⟩:=LcOk.loc (n:=n+1) (b:=zbt) (t:=x.t) (ck:=[]) h2.lc (by decide) (by simp) (by simp)
 obtain⟨h4,w2⟩:=LcOk.loc (n:=n) (b:=zcr) (t:=bT) (ck:=[]) h3 (by decide) (by simp) (by simp)
 exact⟨⟨h4,h2.was,h2.flag,h2.now,h2.reset,h2.cs,h2.parts,h2.defs,h2.names⟩,w1,w2⟩
theorem w_vr{s:Str}(h:Sh s):(exT (vrE s)).w≤47:=by unfold vrE;rw[znL];show 7+s.length+0≤_;omega
theorem w_cn(t v:I64):(exT (cnE t v)).w=7:=by unfold cnE;rw[znL];rfl
theorem w_sm{s:Str}{o:OnC}(h:Sh s)(ho:Sh o.name):(exT (smE s o)).w≤94:=by
 have:=w_vr h
 unfold smE
 rw[znL,zaW]
 show 7+o.name.length+((exT (vrE s)).w+0)≤_
 omega
theorem zoP{c:Nat}{e:Ex}:∀ {l:List (Ex×Ex)},(∀p∈l,(exT p.1).w+(exT p.2).w+7≤c)->(exT (zdA l e)).w≤(exT e).w+c*l.length
 | [],_=>qag _
 | p::l,h=>by
   have h1:=h p (qas ..)
   have h2:=zoP (c:=c) (e:=e) (l:=l) fun y hy=>h y (qar _ hy)
   unfold zdA
   rw[znL,zaW,zaW,zaW,qam,qcm]
   show 7+0+((exT p.1).w+((exT p.2).w+((exT (zdA l e)).w+0)))≤_
   omega
theorem ztY{l:List Str}(h:∀s∈l,Sh s):wsum T.s l≤41*l.length:=zdB fun s hs=>by rw[w_s];have:=h s hs;omega
theorem zkH{s:Str}{e:Ex}(h:Sh s):(equT ⟨[s],e⟩).w≤(exT e).w+42:=by
 rw[zr3]
 have:=ztY (l:=[s]) (by simpa using h)
 simp only[qam,qaE]at this
 dsimp only
 omega
theorem zr6(t:Tran):(zah t).w=(exT t.cond).w+2:=by
 rw[show zah t= .ag [T.n t.cond.kind,T.n t.cond.op,T.n t.cond.t,T.n t.cond.v,.s t.cond.name,.sl 6 (t.cond.args.map exT),T.n t.to,.b t.resume] from rfl,w_ag,zay,w_ag]
 have hb:(T.b t.resume).w=1:=by show(T.v _).w=1;rw[T.w];rfl
 simp only[exC,qaj,qaw,qan,qaG,w_n,hb]
 omega
theorem zoB:Sh []:=by show 0≤40;omega
theorem zrG{x:KS}(h:∀c∈x.cs,∀y∈c,Sh y)(i j:Nat):Sh (zbj x i j):=by
 unfold zbj
 cases hc:x.cs[i]? with
 | none=>exact zoB
 | some c=>
   show Sh ((c[j]?).getD [])
   cases hd:c[j]? with
   | none=>exact zoB
   | some s=>exact h c (qat hc) s (qat hd)
theorem zu5{x:KS}(h:∀c∈x.parts,∀y∈c,Sh y)(i j:Nat):Sh (partAt x i j):=by
 unfold partAt
 cases hc:x.parts[i]? with
 | none=>exact zoB
 | some c=>
   show Sh ((c[j]?).getD [])
   cases hd:c[j]? with
   | none=>exact zoB
   | some s=>exact h c (qat hc) s (qat hd)
theorem zva{nm:Str}{t:I64}{l:List Ex}{c:Nat}(h:Sh nm)(hl:∀e∈l,(exT e).w≤c):(exT (mrgE nm t l)).w≤47+c*l.length:=by
 have:=zdB hl
 unfold mrgE
 rw[znL]
 omega
theorem zr4{L0:List Decl}{n:Nat}{x:KS}(h:KW L0 n x)(i:Nat)(s:Sta)(hs:s.unl.length≤4){th:Tran->Ex}(ht:∀t,(exT (th t)).w≤7){e:Ex}(he:(exT e).w≤94):(exT (zbq x i s th e)).w≤526:=by
 have h1:=zoP (c:=108) (e:=e) (l:=s.unl.mapIdx (chL x i th)) fun p hp=>by
  obtain⟨j,hj,rfl⟩:=qbG.1 hp
  have h1:=w_sm (s:=zbj x i j) (o:=onL x x.was i) (zrG h.cs i j) h.was
  have h2:=ht s.unl[j]
  show(exT (smE (zbj x i j) (onL x x.was i))).w+(exT (th s.unl[j])).w+7≤108
  omega
 rw[qa3]at h1
 have h2:108*s.unl.length≤108*4:=qbl _ hs
 unfold zbq
 omega
theorem zrR:∀(l:List Sta),(l.map fun s=>wsum zah s.unl+168).sum≤wsum staT l+168*l.length
 | []=>qaK _
 | s::l=>by
   have h1:=zrR l
   have h2:=zdQ s
   have h3:=znM 8 zah s.unl
   rw[qaj,qan,zaW,qam,qcm]
   omega
theorem zv6{L0:List Decl}{n v W:Nat}{x:KS}(h:KW L0 n x)(hn:Sh x.next/\Sh x.back)(hl:x.sts.length≤8)(hu:∀s∈x.sts,s.unl.length≤4)(hW:wsum staT x.sts≤W)(hd:x.defs.length≤v)(hb:x.bodies.length≤8)(hi:∀b∈x.bodies,b.ins.length≤v)(hp:∀p∈x.parts,p.length≤v+2):
  wsum equT (zfE x)≤W+15000+8*(324+135*v)+465*(v+2):=by
 have e12:wsum equT (zj1 x)≤206:=by
  have h1:=zkH (s:=x.was) (e:=fbyE (cnE x.t z64) (vrE x.next)) h.was
  have h2:=zkH (s:=x.flag) (e:=fbyE (cnE bT z64) (vrE x.back)) h.flag
  have h3:=w_vr hn.1
  have h4:=w_vr hn.2
  unfold fbyE at h1 h2
  rw[znL,zaW,zaW,w_cn]at h1 h2
  have hz:wsum exT ([]:List Ex)=0:=rfl
  rw[hz]at h1 h2
  simp only[qaE]at h1 h2
  unfold zj1 fbyE
  rw[zaW,zaW]
  show _+(_+0)≤_
  omega
 have eU:wsum equT (x.sts.mapIdx (eqU x)).flatten≤W+1344:=by
  have h1:=zmb (f:=equT) (h:=fun s=>wsum zah s.unl+168) (l:=x.sts) (g:=eqU x) fun i s hs=>by
   have hus:=hu s hs
   have:∀(l:List Tran) (g:Nat->Str),(∀j,Sh (g j))->wsum equT (l.mapIdx fun j t=>(⟨[g j],t.cond⟩:Equ))≤wsum zah l+42*l.length:=by
    intro l
    induction l with
    | nil=>intro _ _;exact qaK _
    | cons t l ih=>
      intro g hg
      have h1:=ih (fun j=>g (j+1)) fun j=>hg (j+1)
      have h2:=zkH (s:=g 0) (e:=t.cond) (hg 0)
      have h3:=zr6 t
      rw[qcx,zaW,zaW,qam,qcm]
      omega
   have h2:=this s.unl (fun j=>zbj x i j) fun j=>zrG h.cs i j
   have h3:42*s.unl.length≤42*4:=qbl _ hus
   show wsum equT (s.unl.mapIdx fun j t=>(⟨[zbj x i j],t.cond⟩:Equ))≤wsum zah s.unl+168
   omega
  have h2:=zrR x.sts
  have h3:168*x.sts.length≤168*8:=qbl _ hl
  omega
 have e34:wsum equT (zmL x)≤8600:=by
  have h1:=zva (nm:=x.was) (t:=x.t) (c:=526) (l:=x.sts.mapIdx fun i s=>zbq x i s (toL x) (cnE x.t (toI i))) h.was fun e he=>by
   obtain⟨j,hj,rfl⟩:=qbG.1 he
   exact zr4 h j _ (hu _ (qad hj)) (fun t=>by unfold toL;rw[w_cn];omega) (by rw[w_cn];omega)
  have h2:=zva (nm:=x.was) (t:=x.t) (c:=526) (l:=x.sts.mapIdx fun i s=>zbq x i s (rsL x) (smE x.flag (onL x x.was i))) h.was fun e he=>by
   obtain⟨j,hj,rfl⟩:=qbG.1 he
   exact zr4 h j _ (hu _ (qad hj)) (fun t=>by unfold rsL;rw[w_cn];omega) (w_sm h.flag h.was)
  rw[qa3]at h1 h2
  have h3:526*x.sts.length≤526*8:=qbl _ hl
  have h4:=zkH (s:=x.now) (e:=mrgE x.was x.t (x.sts.mapIdx fun i s=>zbq x i s (toL x) (cnE x.t (toI i)))) h.now
  have h5:=zkH (s:=x.reset) (e:=mrgE x.was x.t (x.sts.mapIdx fun i s=>zbq x i s (rsL x) (smE x.flag (onL x x.was i)))) h.reset
  unfold zmL
  rw[zaW,zaW]
  show _+(_+0)≤_
  omega
 have eB:wsum equT (x.bodies.mapIdx (eqB x))≤(324+135*v)*8:=by
  have h1:=zdB (f:=equT) (c:=324+135*v) (l:=x.bodies.mapIdx (eqB x)) fun q hq=>by
   obtain⟨i,hi2,rfl⟩:=qbG.1 hq
   obtain⟨n1,n2⟩:=h.names _ (qad hi2)
   have n3:=hi _ (qad hi2)
   have hpl:∀y∈(x.parts[i]?).getD [],Sh y:=by
    cases hc:x.parts[i]? with
    | none=>intro y hy;cases hy
    | some c=>exact h.parts c (qat hc)
   have hpn:((x.parts[i]?).getD []).length≤v+2:=by
    cases hc:x.parts[i]? with
    | none=>exact qaK _
    | some c=>exact hp c (qat hc)
   have h2:=ztY hpl
   have h3:=zdB (f:=exT) (c:=94) (l:=(x.bodies[i].ins.map fun d=>smE d.name (onL x x.now i))++[smE x.reset (onL x x.now i)]) fun e he=>by
    rcases qaF.1 he with he|he
    ·obtain⟨d,hd,rfl⟩:=qa2.1 he
     exact w_sm (n2 d hd) h.now
    ·rw[qaJ.1 he]
     exact w_sm h.reset h.now
   rw[qaf,qaa,qam,qaE]at h3
   unfold eqB calE
   rw[zr3,znL]
   have h4:41*((x.parts[i]?).getD []).length≤41*(v+2):=qbl _ hpn
   have h5:94*(x.bodies[i].ins.length+(0+1))≤94*(v+1):=qbl _ (by omega)
   dsimp only
   omega
  rw[qa3]at h1
  exact qaC h1 (qbl _ hb)
 have eL:wsum equT ((lefts x).mapIdx (eqL x))≤465*(v+2):=by
  have hls:∀y∈lefts x,Sh y:=by
   intro y hy
   rcases qaF.1 hy with hy|hy
   ·obtain⟨d,hd,rfl⟩:=qa2.1 hy
    exact(h.defs d hd).1
   ·simp only[qbd,qb8,or_false]at hy
    rcases hy with rfl|rfl
    ·exact hn.1
    ·exact hn.2
  have h1:=zdB (f:=equT) (c:=465) (l:=(lefts x).mapIdx (eqL x)) fun q hq=>by
   obtain⟨j,hj,rfl⟩:=qbG.1 hq
   have h2:=zva (nm:=x.now) (t:=x.t) (c:=47) (l:=x.sts.mapIdx fun i _=>vrE (partAt x i j)) h.now fun e he=>by
    obtain⟨i,hi,rfl⟩:=qbG.1 he
    exact w_vr (zu5 h.parts i j)
   rw[qa3]at h2
   have h3:=zkH (s:=(lefts x)[j]) (e:=mrgE x.now x.t (x.sts.mapIdx fun i _=>vrE (partAt x i j))) (hls _ (qad hj))
   have h4:47*x.sts.length≤47*8:=qbl _ hl
   unfold eqL
   omega
  rw[qa3]at h1
  have h5:(lefts x).length=x.defs.length+2:=by unfold lefts;simp
  exact qaC h1 (qbl _ (by omega))
 unfold zfE
 rw[zcX,zcX,zcX,zcX]
 omega
theorem zv5{L0:List Decl}{n v:Nat}{x:KS}{vars:List Decl}(h:KW L0 (n+9) x)(hd:x.defs.length≤v)(hvl:vars.length≤v)(hv:∀d∈vars,Sh d.name)(i:Nat)(s:Sta)(hu:s.unt.length≤4)(hsl:∀d∈s.locals,Sh d.name):(nodT (zcK x i s vars).2).w≤(staT s).w+100*v+1500/\∀d∈zav (zcK x i s vars).2,Sh d.name:=by
 have r1:Room (frF x.a zbT).1 (n+8):=Room.fr1 h.lc.room (by decide)
 have r2:Room (frF (frF x.a zbT).1 zbt).1 (n+7):=Room.fr1 r1 (by decide)
 have r3:Room (frF (frF (frF x.a zbT).1 zbt).1 zcr).1 (n+6):=Room.fr1 r2 (by decide)
 have s1:Sh (frF x.a zbT).2:=zlX h.lc.room (by decide)
 have s2:Sh (frF (frF x.a zbT).1 zbt).2:=zlX r1 (by decide)
 have s3:Sh (frF (frF (frF x.a zbT).1 zbt).1 zcr).2:=zlX r2 (by decide)
 have hi:=zm6 (zbM 100000000 s) x.defs vars [] hv (by simp)
 have hic:=zkb (zbM 100000000 s) x.defs vars [] (by simp)
 have hil:=zhn (zbM 100000000 s) x.defs vars []
 have hD:∀d:Decl,Sh d.name->d.clock=[]->(zaa d).w≤50:=fun d h1 h2=>by
  rw[zr2,h2]
  show 4+d.name.length+0≤_
  omega
 have a1:=zdB (f:=zaa) (c:=50) (l:=vars.foldl (insF (zbM 100000000 s) x.defs) []) fun d hm=>hD d (hi d hm) (hic d hm)
 have a2:=zdB (f:=zaa) (c:=50) (l:=x.defs) fun d hm=>hD d (h.defs d hm).1 (h.defs d hm).2
 have hun:∀(l:List Tran) (m:Nat) (u:List Str×Bd),Room u.1 (m+l.length)->wsum zaa (l.foldl (untF x.t) u).2.locals≤wsum zaa u.2.locals+50*l.length/\wsum equT (l.foldl (untF x.t) u).2.eqs≤wsum equT u.2.eqs+wsum zah l+42*l.length/\
   ((∀p∈u.2.tos,(exT p.1).w+(exT p.2).w+7≤61)->∀p∈(l.foldl (untF x.t) u).2.tos,(exT p.1).w+(exT p.2).w+7≤61)/\((∀p∈u.2.hows,(exT p.1).w+(exT p.2).w+7≤61)->∀p∈(l.foldl (untF x.t) u).2.hows,(exT p.1).w+(exT p.2).w+7≤61)/\
   (l.foldl (untF x.t) u).2.tos.length=u.2.tos.length+l.length/\(l.foldl (untF x.t) u).2.hows.length=u.2.hows.length+l.length/\((∀d∈u.2.locals,Sh d.name)->∀d∈(l.foldl (untF x.t) u).2.locals,Sh d.name):=by
  intro l
  induction l with
  | nil=>intro m u _;exact⟨by simp,by simp[wsum],fun h=>h,fun h=>h,by simp,by simp,fun h=>h⟩
  | cons t l ih=>
    intro m u hr
    have hs:Sh (zaF u.1 zej):=zlX hr (by decide)
    have hr2:Room (untF x.t u t).1 (m+l.length):=Room.fr1 (by rw[qam]at hr;exact hr) (by decide)
    obtain⟨i1,i2,i3,i4,i5,i6,i7⟩:=ih m (untF x.t u t) hr2
    have e1:wsum zaa (untF x.t u t).2.locals≤wsum zaa u.2.locals+50:=by
     show wsum zaa (u.2.locals++[_])≤_
     have:=hD ⟨zaF u.1 zej,bT,[]⟩ hs rfl
     rw[zcX,zaW]
     show _+(_+0)≤_
     omega
    have e2:wsum equT (untF x.t u t).2.eqs≤wsum equT u.2.eqs+(zah t).w+42:=by
     show wsum equT (u.2.eqs++[_])≤_
     have h1:=zkH (s:=zaF u.1 zej) (e:=t.cond) hs
     have h2:=zr6 t
     rw[zcX,zaW]
     show _+(_+0)≤_
     omega
    have hv1:=w_vr hs
    rw[qaT,qam,zaW]
    refine⟨by omega,by omega,fun hh=>i3 fun p hp=>?_,fun hh=>i4 fun p hp=>?_,?_,?_,fun hh=>i7 fun d hd=>?_⟩
    ·rcases qaF.1 (show p∈u.2.tos++[_] from hp)with hp|hp
     ·exact hh p hp
     ·rw[qaJ.1 hp]
      dsimp only
      rw[w_cn]
      omega
    ·rcases qaF.1 (show p∈u.2.hows++[_] from hp)with hp|hp
     ·exact hh p hp
     ·rw[qaJ.1 hp]
      dsimp only
      rw[w_cn]
      omega
    ·rw[i5,show(untF x.t u t).2.tos.length=u.2.tos.length+1 by simp[untF]];omega
    ·rw[i6,show(untF x.t u t).2.hows.length=u.2.hows.length+1 by simp[untF]];omega
    ·rcases qaF.1 (show d∈u.2.locals++[_] from hd)with hd|hd
     ·exact hh d hd
     ·rw[qaJ.1 hd]
      exact hs
 obtain⟨u1,u2,u3,u4,u5,u6,u7⟩:=hun s.unt n ((frF (frF (frF x.a zbT).1 zbt).1 zcr).1,⟨[],[],s.locals,s.eqs⟩) (r3.mono (by omega))
 have hb:(zcK x i s vars).2=⟨(frF x.a zbT).2,vars.foldl (insF (zbM 100000000 s) x.defs) [],x.defs++[⟨(frF (frF x.a zbT).1 zbt).2,x.t,[]⟩,⟨(frF (frF (frF x.a zbT).1 zbt).1 zcr).2,bT,[]⟩],(s.unt.foldl (untF x.t) ((frF (frF (frF x.a zbT).1 zbt).1 zcr).1,⟨[],[],s.locals,s.eqs⟩)).2.locals,
  (s.unt.foldl (untF x.t) ((frF (frF (frF x.a zbT).1 zbt).1 zcr).1,⟨[],[],s.locals,s.eqs⟩)).2.eqs++[⟨[(frF (frF x.a zbT).1 zbt).2],zdA (s.unt.foldl (untF x.t) ((frF (frF (frF x.a zbT).1 zbt).1 zcr).1,⟨[],[],s.locals,s.eqs⟩)).2.tos (cnE x.t (toI i))⟩,⟨[(frF (frF (frF x.a zbT).1 zbt).1 zcr).2],zdA (s.unt.foldl (untF x.t) ((frF (frF (frF x.a zbT).1 zbt).1 zcr).1,⟨[],[],s.locals,s.eqs⟩)).2.hows (cnE bT z64)⟩],s.autos,[],[]⟩:=rfl
 rw[hb]
 clear hb hun
 generalize s.unt.foldl (untF x.t) ((frF (frF (frF x.a zbT).1 zbt).1 zcr).1,⟨[],[],s.locals,s.eqs⟩)=u at*
 have n1:=zoP (c:=61) (e:=cnE x.t (toI i)) (u3 (by simp))
 have n2:=zoP (c:=61) (e:=cnE bT z64) (u4 (by simp))
 rw[w_cn]at n1 n2
 have n3:=zkH (s:=(frF (frF x.a zbT).1 zbt).2) (e:=zdA u.2.tos (cnE x.t (toI i))) s2
 have n4:=zkH (s:=(frF (frF (frF x.a zbT).1 zbt).1 zcr).2) (e:=zdA u.2.hows (cnE bT z64)) s3
 have d1:=hD ⟨(frF (frF x.a zbT).1 zbt).2,x.t,[]⟩ s2 rfl
 have d2:=hD ⟨(frF (frF (frF x.a zbT).1 zbt).1 zcr).2,bT,[]⟩ s3 rfl
 have hst:(staT s).w=1+((T.s s.name).w+(1+wsum zaa s.locals+(1+wsum equT s.eqs+(1+wsum zae s.autos+(1+wsum zah s.unl+(1+wsum zah s.unt+0)))))):=by
  rw[za8,w_ag]
  simp only[qaj,qaw,qan,qaG,w_sl]
 refine⟨?_,fun d hd=>?_⟩
 rotate_left
 ·rw[zgz]at hd
  rcases qaF.1 hd with hd|hd
  ·rcases qaF.1 hd with hd|hd
   ·exact hi d hd
   ·rcases qaF.1 hd with hd|hd
    ·exact(h.defs d hd).1
    ·simp only[qbd,qb8,or_false]at hd
     rcases hd with rfl|rfl
     ·exact s2
     ·exact s3
  ·exact u7 hsl d hd
 rw[nodT,w_ag]
 simp only[qaj,qaw,qan,qaG,w_sl,w_s,qal,qbH]
 simp only[wsum]at a1 a2 u1 u2 hst
 simp only[qaE,qaO]at hil u5 u6
 omega
end Go.Proofs.YtpnnpgbaiobbjaaGreatDoor
