import Derived.ProofKit
import Derived.OpenShut
import Derived.Test.YtpnnpgbaiobbjaaGreatDoorBk37
set_option linter.all false
namespace Go.Proofs.YtpnnpgbaiobbjaaGreatDoor
open Go Go.TL
attribute [local irreducible] TR TO Then zap RetK Sound zab Kf GG za3
theorem zmZ(l:List Str)(b:Str):∀(f n:Nat),n≤frs l b f n
 | 0,n=>qag _
 | f+1,n=>by
   unfold frs
   split
   ·exact qaC (Nat.le_succ n) (zmZ l b f (n+1))
   ·exact qag _
theorem zhZ{l k:List Str}{b:Str}(h:∀i,zdz b i∈l ↔ zdz b i∈k):zaF l b=zaF k b:=by
 obtain⟨a1,a2,a3⟩:=zjs l b 1
 obtain⟨b1,b2,b3⟩:=zjs k b 1
 have g1:=zmZ l b (l.length+1) 1
 have g2:=zmZ k b (k.length+1) 1
 unfold zaF
 generalize frs l b (l.length+1) 1=x at*
 generalize frs k b (k.length+1) 1=y at*
 have e:x=y:=by
  rcases Nat.lt_trichotomy x y with hl|hl|hl
  ·exact absurd ((h x).2 (b3 x g1 hl)) a1
  ·exact hl
  ·exact absurd ((h y).1 (a3 y g2 hl)) b1
 rw[e]
theorem zcm{x:Str}(a:List Str)(s:Str):x∈ins a s ↔ x∈a\/x=s:=by
 unfold ins
 split
 ·rename_i h
  exact⟨.inl,fun h2=>h2.elim id fun e=>e ▸ h⟩
 ·simp
theorem zaP{α:Type}{x:Str}{f:List Str->α->List Str}{Q:α->Prop}:∀ {l:List α} {a:List Str},(∀a,∀y∈l,(x∈f a y ↔ x∈a\/Q y))->(x∈l.foldl f a ↔ x∈a\/∃y∈l,Q y)
 | [],a,_=>by simp
 | y::l,a,h=>by
   rw[qaT,zaP fun a z hz=>h a z (qar _ hz),h a y (qas ..)]
   simp[or_assoc]
def InD(x:Str)(l:List Decl):Prop:=∃d∈l,x=d.name\/∃o∈d.clock,x=o.name
def InE(x:Str)(e:Ex):Prop:=∃y∈flat e,zh8 y.kind.1=true/\x=y.name
theorem zeS{x:Str}{a:List Str}{l:List Decl}:x∈zaE a l ↔ x∈a\/InD x l:=zaP fun a d _=>by
 rw[zaP (Q:=fun o:OnC=>x=o.name) fun a o _=>zcm a o.name,zcm]
 simp[or_assoc]
theorem zie{x:Str}{a:List Str}{e:Ex}:x∈zbW a e ↔ x∈a\/InE x e:=zaP fun a y _=>by
 unfold oneL
 by_cases h:zh8 y.kind.1=true
 ·rw[if_pos h,zcm]
  simp[h]
 ·rw[if_neg h]
  simp[h]
def NoE(e:Ex):Prop:=∀y∈flat e,zh8 y.kind.1=false->y.kind.1=11\/y.name=[]
theorem zvE{k:Int}(h:zh8 k=true):k≠11:=by
 unfold zh8 at h
 simp at h
 exact h.2.2.2.2.2.2
theorem zfV{x:Str}(hx:x≠ []){a:List Str}{e:Ex}(he:NoE e):x∈zbr a e ↔ x∈a\/InE x e:=zaP fun a y hy=>by
 unfold oneA
 by_cases h:zh8 y.kind.1=true
 ·rw[if_neg (zvE h),zcm]
  simp[h]
 ·by_cases h2:y.kind.1=11
  ·rw[if_pos h2]
   simp[h]
  ·rw[if_neg h2,zcm]
   rcases he y hy (by simpa using h)with h3|h3
   ·exact absurd h3 h2
   ·rw[h3]
    simp[h,hx]
def InS(x:Str):Nat->List Equ->List Auto->Prop
 | 0,_,_=>False
 | m+1,qs,l=>(∃q∈qs,x∈q.left)\/∃a∈l,∃s∈a.states,x=s.name\/InD x s.locals\/InS x m s.eqs s.autos
def InX(x:Str):Nat->List Equ->List Auto->Prop
 | 0,_,_=>False
 | m+1,qs,l=>(∃q∈qs,InE x q.right)\/∃a∈l,∃s∈a.states,InX x m s.eqs s.autos\/∃t∈s.unl++s.unt,InE x t.cond
def NoA:Nat->List Equ->List Auto->Prop
 | 0,_,_=>True
 | m+1,qs,l=>(∀q∈qs,NoE q.right)/\∀a∈l,∀s∈a.states,NoA m s.eqs s.autos/\∀t∈s.unl++s.unt,NoE t.cond
theorem mem_left{x:Str}{q:Equ}{a:List Str}:x∈q.left.foldl ins a ↔ x∈a\/x∈q.left:=by
 rw[zaP (Q:=fun s=>x=s) fun a s _=>zcm a s]
 simp
theorem zif{x:Str}:∀(m:Nat) (a:List Str) (qs:List Equ) (l:List Auto),x∈zaT m a qs l ↔ x∈a\/InS x m qs l
 | 0,a,_,_=>by simp[zaT,InS]
 | m+1,a,qs,l=>by
   rw[zaT,InS,zaP (Q:=fun y:Auto=>∃s∈y.states,x=s.name\/InD x s.locals\/InS x m s.eqs s.autos) fun a y _=>zaP fun a s _=>by rw[zif m,zeS,zcm];simp[or_assoc]]
   rw[show lhsL a qs=qs.foldl (fun a q=>q.left.foldl ins a) a from rfl,zaP (Q:=fun q:Equ=>x∈q.left) fun a q _=>mem_left]
   rw[or_assoc]
theorem zjx{x:Str}:∀(m:Nat) (a:List Str) (qs:List Equ) (l:List Auto),x∈zbI m a qs l ↔ x∈a\/InX x m qs l
 | 0,a,_,_=>by simp[zbI,InX]
 | m+1,a,qs,l=>by
   rw[zbI,InX,zaP (Q:=fun y:Auto=>∃s∈y.states,InX x m s.eqs s.autos\/∃t∈s.unl++s.unt,InE x t.cond) fun a y _=>zaP fun a s _=>by
    rw[zaP (Q:=fun t:Tran=>InE x t.cond) fun a t _=>zie,zjx m]
    simp[or_assoc]]
   rw[zaP (Q:=fun q:Equ=>InE x q.right) fun a q _=>zie,or_assoc]
theorem zlD{x:Str}(hx:x≠ []):∀(m:Nat) (a:List Str) (qs:List Equ) (l:List Auto),NoA m qs l->(x∈zcF m a qs l ↔ x∈a\/InS x m qs l\/InX x m qs l)
 | 0,a,_,_,_=>by simp[zcF,InS,InX]
 | m+1,a,qs,l,h=>by
   rw[zcF,zaP (Q:=fun y:Auto=>∃s∈y.states,(x=s.name\/InD x s.locals\/InS x m s.eqs s.autos)\/(InX x m s.eqs s.autos\/∃t∈s.unl++s.unt,InE x t.cond)) fun a y hy=>zaP fun a s hs=>by
    rw[zaP (Q:=fun t:Tran=>InE x t.cond) fun a t ht=>zfV hx ((h.2 y hy s hs).2 t ht),zlD hx m _ _ _ (h.2 y hy s hs).1,zeS,zcm]
    simp only[or_assoc]]
   rw[zaP (Q:=fun q:Equ=>x∈q.left\/InE x q.right) fun a q hq=>by rw[zfV hx (h.1 q hq),mem_left,or_assoc]]
   rw[InS,InX]
   constructor
   ·rintro((h1|⟨q,hq,h1|h1⟩)|⟨y,hy,s,hs,h1|h1⟩)
    ·exact .inl h1
    ·exact .inr (.inl (.inl ⟨q,hq,h1⟩))
    ·exact .inr (.inr (.inl ⟨q,hq,h1⟩))
    ·exact .inr (.inl (.inr ⟨y,hy,s,hs,h1⟩))
    ·exact .inr (.inr (.inr ⟨y,hy,s,hs,h1⟩))
   ·rintro(h1|(⟨q,hq,h1⟩|⟨y,hy,s,hs,h1⟩)|(⟨q,hq,h1⟩|⟨y,hy,s,hs,h1⟩))
    ·exact .inl (.inl h1)
    ·exact .inl (.inr ⟨q,hq,.inl h1⟩)
    ·exact .inr ⟨y,hy,s,hs,.inl h1⟩
    ·exact .inl (.inr ⟨q,hq,.inr h1⟩)
    ·exact .inr ⟨y,hy,s,hs,.inr h1⟩
theorem zrh{x:Str}(hx:x≠ []){m:Nat}{a b:List Str}{n:Nod}(h:NoA m n.eqs n.autos)(h2:∀e∈n.assume++n.ensure,NoE e)(hab:x∈a ↔ x∈b):x∈zfX m a n ↔ x∈zgq m b n:=by
 unfold zfX zgq zhT
 rw[zaP (Q:=fun e:Ex=>InE x e) fun a e he=>zfV hx (h2 e (qbQ _ he)),zaP (Q:=fun e:Ex=>InE x e) fun a e he=>zfV hx (h2 e (qbu _ he)),zlD hx m _ _ _ h,zeS,zcm]
 rw[zaP (Q:=fun e:Ex=>InE x e) fun a e he=>zie,zjx,zif,zeS,zcm,hab]
 have e:(∃y∈n.assume++n.ensure,InE x y) ↔ (∃y∈n.assume,InE x y)\/∃y∈n.ensure,InE x y:=by
  simp[or_and_right,exists_or]
 rw[e]
 simp only[or_assoc]
theorem zri{x:Str}(hx:x≠ []){m:Nat}{p:Prog}(h:∀n∈p.nodes,NoA m n.eqs n.autos/\∀e∈n.assume++n.ensure,NoE e):x∈zbl m p ↔ x∈zec m p:=by
 have:∀(l:List Nod) (a b:List Str),(∀n∈l,NoA m n.eqs n.autos/\∀e∈n.assume++n.ensure,NoE e)->(x∈a ↔ x∈b)->(x∈l.foldl (zfX m) a ↔ x∈l.foldl (zgq m) b):=by
  intro l
  induction l with
  | nil=>intro a b _ h;exact h
  | cons n l ih=>intro a b hl hab;exact ih _ _ (fun k hk=>hl k (qar _ hk)) (zrh hx (hl n (qas ..)).1 (hl n (qas ..)).2 hab)
 exact this p.nodes _ _ h Iff.rfl
theorem zs0(b:Str)(i:Nat):zdz b i≠ []:=by
 unfold zdz
 intro h
 have:=congrArg List.length h
 simp at this
theorem zmY{m:Nat}{p:Prog}(h:∀n∈p.nodes,NoA m n.eqs n.autos/\∀e∈n.assume++n.ensure,NoE e)(b:Str):zaF (zbl m p) b=zaF (zec m p) b:=zhZ fun i=>zri (zs0 b i) h
theorem zlH{es:List En}{e:Ex}(h:zb5 es e=0):NoE e:=fun y hy hk=>by
 have h1:zaf oneX (flat e)=0:=by
  unfold zb5 at h
  split at h
  ·rename_i hc
   unfold zgL at hc
   split at hc
   ·cases hc
   ·exact hc
  ·rename_i hc;exact absurd h hc
 have h2:=zaj h1 y hy
 have hfew:y.args.length≤64:=by
  unfold oneX oneI at h2
  split at h2
  ·cases h2
  ·omega
 unfold oneX at h2
 rw[zrv _ _ _ _ _ _ (by omega)]at h2
 have hf:zhY y.kind.1 y.op.1 y.t.1 y.v.1 y.name y.args.length=true:=by
  cases hq:zhY y.kind.1 y.op.1 y.t.1 y.v.1 y.name y.args.length with
  | true=>rfl
  | false=>rw[hq]at h2;simp at h2;split at h2 <;> simp at h2
 unfold zhY at hf
 split at hf
 ·cases hf
 split at hf
 ·cases hf
 split at hf
 ·cases hf
 rename_i h3
 by_cases h11:y.kind.1=11
 ·exact .inl h11
 refine .inr (qaq fun hn=>h3 ⟨?_,h11,hn⟩)
 unfold zh8 at hk
 unfold zlE
 simp at hk⊢
 omega
theorem ztH{es:List En}:∀(m k:Nat) (qs:List Equ) (l:List Auto),(∀q∈qs,OkQ es q)->(∀a∈l,OkA es k a)->NoA m qs l
 | 0,_,_,_,_,_=>trivial
 | m+1,k,qs,l,hq,hl=>by
   refine⟨fun q h=>zlH (hq q h).right,fun a ha s hs=>?_⟩
   cases k with
   | zero=>exact absurd (hl a ha) id
   | succ k=>
     have h:=(hl a ha).2 s hs
     refine⟨ztH m k _ _ h.eqs h.autos,fun t ht=>?_⟩
     rcases qaF.1 ht with ht|ht
     ·exact zlH (h.unl t ht).cond
     ·exact zlH (h.unt t ht).cond
theorem zph{p:Prog}(h:OkP p)(b:Str):zaF (zbl 100000000 p) b=zaF (zec 100000000 p) b:=zmY (fun n hn=>by
 have ho:=h.nodes n hn
 refine⟨ztH _ 3 _ _ ho.eqs ho.autos,fun e he=>?_⟩
 rcases qaF.1 he with he|he
 ·exact zlH (ho.assume e he)
 ·exact zlH (ho.ensure e he)) b
theorem zjS(c:Nc)(vars:List Decl):∀(l:List Auto) (r:NS),∃E,(l.foldl (zeg c vars) r).es=r.es++E
 | [],r=>⟨[],by simp⟩
 | a::l,r=>by
   obtain⟨E,h⟩:=zjS c vars l (zeg c vars r a)
   refine⟨[(dclF (r.a,r.L) r.es.length a.states).2.1]++E,?_⟩
   rw[qaT,h,show(zeg c vars r a).es=r.es++[(dclF (r.a,r.L) r.es.length a.states).2.1] from rfl,qa0]
theorem zfr(k:Nat)(hk:∀s n,∃E,(zaG k s n).1.2=s.2++E):∀(l:List Nod) (q:(List Str×List En)×List Nod),∃E,(bdF k q l).1.2=q.1.2++E
 | [],q=>⟨[],by simp[bdF]⟩
 | b::l,q=>by
   obtain⟨E1,h1⟩:=hk q.1 b
   obtain⟨E,h⟩:=zfr k hk l ((zaG k q.1 b).1,q.2++(zaG k q.1 b).2)
   refine⟨E1++E,?_⟩
   rw[show bdF k q (b::l)=bdF k ((zaG k q.1 b).1,q.2++(zaG k q.1 b).2) l from rfl,h]
   dsimp only
   rw[h1,qa0]
theorem znn:∀(k:Nat) (s:List Str×List En) (n:Nod),∃E,(zaG k s n).1.2=s.2++E
 | 0,s,n=>⟨[],by simp[zaG]⟩
 | k+1,s,n=>by
   obtain⟨E1,h1⟩:=zjS (ncOf n) (zav n) n.autos ⟨s.1,s.2,n.locals,n.eqs,[]⟩
   obtain⟨E2,h2⟩:=zfr k (znn k) (nsF s n).bs (((nsF s n).a,(nsF s n).es),[])
   refine⟨E1++E2,?_⟩
   rw[zgp,h2]
   dsimp only
   rw[h1,qa0]
abbrev enA (a:List Str)(l:List Sta):En:=⟨zaF a zc5,(zb7 (frF a zc5).1 l).2⟩
theorem zpr(k:Nat)(s:List Str×List En)(n:Nod)(au:Auto)(r:List Auto)(h:n.autos=au::r):∃E,(zaG (k+1) s n).1.2=s.2++enA s.1 au.states::E:=by
 obtain⟨E1,h1⟩:=zjS (ncOf n) (zav n) r (zeg (ncOf n) (zav n) ⟨s.1,s.2,n.locals,n.eqs,[]⟩ au)
 obtain⟨E2,h2⟩:=zfr k (znn k) (nsF s n).bs (((nsF s n).a,(nsF s n).es),[])
 refine⟨E1++E2,?_⟩
 have h3:(nsF s n).es=s.2++enA s.1 au.states::E1:=by
  unfold nsF
  rw[h,qaT,h1,show(zeg (ncOf n) (zav n) ⟨s.1,s.2,n.locals,n.eqs,[]⟩ au).es=s.2++[enA s.1 au.states] from rfl,qa0]
  rfl
 rw[zgp,h2]
 dsimp only
 rw[h3,qa0]
 rfl
theorem zrn(k:Nat)(s:List Str×List En)(n:Nod)(h:n.autos=[]):(zaG k s n).1=s:=by
 cases k with
 | zero=>rfl
 | succ k=>
   have h1:nsF s n=⟨s.1,s.2,n.locals,n.eqs,[]⟩:=by unfold nsF;rw[h];rfl
   rw[zgp,h1]
   rfl
theorem zin(k:Nat):∀(l:List Nod) (q:(List Str×List En)×List Nod),(∃n∈l,n.autos≠ [])->∃n∈l,∃au∈n.autos,∃E,(bdF (k+1) q l).1.2=q.1.2++enA q.1.1 au.states::E
 | [],q,h=>by obtain⟨n,hn,_⟩:=h;cases hn
 | n::l,q,h=>by
   rw[show bdF (k+1) q (n::l)=bdF (k+1) ((zaG (k+1) q.1 n).1,q.2++(zaG (k+1) q.1 n).2) l from rfl]
   rcases hn:n.autos with _|⟨au,r⟩
   ·obtain⟨m,hm,ha⟩:∃m∈l,m.autos≠ []:=by
     obtain⟨m,hm,ha⟩:=h
     rcases qbd.1 hm with rfl|hm
     ·exact absurd hn ha
     ·exact⟨m,hm,ha⟩
    obtain⟨m,hm,au,hau,E,he⟩:=zin k l ((zaG (k+1) q.1 n).1,q.2++(zaG (k+1) q.1 n).2) ⟨m,hm,ha⟩
    refine⟨m,qar _ hm,au,hau,E,?_⟩
    rw[he]
    dsimp only
    rw[zrn (k+1) q.1 n hn]
   ·obtain⟨E1,h1⟩:=zpr k q.1 n au r hn
    obtain⟨E2,h2⟩:=zfr (k+1) (znn (k+1)) l ((zaG (k+1) q.1 n).1,q.2++(zaG (k+1) q.1 n).2)
    refine⟨n,qas ..,au,by rw[hn];exact qas ..,E1++E2,?_⟩
    rw[h2]
    dsimp only
    rw[h1,qa0]
    rfl
theorem zqH{p:Prog}(h:0<countP p.nodes):∃n∈p.nodes,∃au∈n.autos,∃E,(expF p).enums=p.enums++enA (zbl 100000000 p) au.states::E:=by
 obtain⟨n,hn,ha⟩:∃n∈p.nodes,n.autos≠ []:=qaq fun hc=>by
  have h1:∀n∈p.nodes,n.autos=[]:=fun n hn=>qaq fun h2=>hc ⟨n,hn,h2⟩
  have h2:countP p.nodes=0:=by
   rw[countP_eq]
   have:∀l:List Nod,(∀n∈l,n.autos=[])->(l.map fun x=>zbX 100000001 x.autos).sum=0:=by
    intro l
    induction l with
    | nil=>intro _;rfl
    | cons n l ih=>
      intro hl
      rw[qaj,qan,ih fun m hm=>hl m (qar _ hm),hl n (qas ..)]
      rfl
   exact this _ h1
  omega
 exact zin 3 p.nodes ((zbl 100000000 p,p.enums),[]) ⟨n,hn,ha⟩
theorem znk{p:Prog}(h:0<countP p.nodes)(hs:∀n∈p.nodes,∀au∈n.autos,au.states≠ []):∃tg E,(expF p).enums=p.enums++⟨zaF (zbl 100000000 p) zc5,zaF (zbl 100000000 p) sAt::tg⟩::E:=by
 obtain⟨n,hn,au,ha,E,h1⟩:=zqH h
 have h2:=hs n hn au ha
 rcases hx:au.states with _|⟨s,l⟩
 ·exact absurd hx h2
 refine⟨(zb7 (frF (frF (zbl 100000000 p) zc5).1 sAt).1 l).2,E,?_⟩
 have h3:zaF (frF (zbl 100000000 p) zc5).1 sAt=zaF (zbl 100000000 p) sAt:=zhZ fun i=>by
  show zdz sAt i∈ins _ _ ↔ _
  rw[zcm]
  refine⟨fun h=>h.elim id fun e=>?_,.inl⟩
  unfold zaF zdz at e
  simp at e
 rw[h1,hx,<-h3]
 rfl
theorem zrL{es:List En}{k:Nat}{a:Auto}(h:zcs es (k+1) a=0):a.states≠ []:=fun hc=>by
 unfold zcs at h
 have h1:=(orE0 h).1
 rw[hc]at h1
 simp at h1
theorem zso{p:Prog}(h:(zbf p).2=0):∀n∈p.nodes,∀au∈n.autos,au.states≠ []:=fun n hn au ha=>by
 unfold zbf at h
 have h1:limE p=0:=qaq fun hh=>by rw[if_pos hh]at h;exact hh h
 rw[if_neg (by simp[h1])]at h
 have h2:zaf zfb p.enums=0:=qaq fun hh=>by rw[if_pos hh]at h;exact hh h
 rw[if_neg (by simp[h2])]at h
 have h3:zaf (fun n=>(zce p.enums n).2) p.nodes=0:=qaq fun hh=>by rw[if_neg hh]at h;exact hh h
 have h4:=zaj h3 n hn
 unfold zce at h4
 have h5:zlr p.enums n=0:=qaq fun hh=>by rw[if_pos hh]at h4;exact hh h4
 rw[if_neg (by simp[h5])]at h4
 have h6:zaf (equE p.enums) n.eqs=0:=qaq fun hh=>by rw[if_pos hh,zcc]at h4;exact hh h4
 rw[if_neg (by simp[h6])]at h4
 simp only at h4
 unfold znE at h4
 exact zrL (zaj (orE0 h4).1 au ha)
set_option maxHeartbeats 16000000 in
theorem zlF (p:Prog) (hw:(T.ag (zax p)).w≤2200000) (hz:zj9 p=false) (e:Int) (he:e≠0) (cx:Pure Tryz.prog 11 [.t (.ag (zax p))] (.tup [.t (.ag [.sl 2 [],.sl 8 []]),.i e])):Pure Tryz.prog 8 [.t (.ag (zax p))] (.b true):=by
 have hh:=zd2 p (by omega)
 have ha:=zdS
 rw[hz]at hh
 unfold zax at*
 refine so Tryz.func8 ?_
 repeat' (first|refine wu ?_|exact wkc|intro hc|refine wk2 ?_ ?_|refine wv hh ?_|refine wv ha ?_|refine wv cx ?_|fail)
 all_goals first
  | exact wkr
  | (exfalso;omega)
set_option maxHeartbeats 16000000 in
theorem ziZ (p:Prog) (hw:(T.ag (zax p)).w≤2200000):Pure Tryz.prog 8 [.t (.ag (zax p))] (.b true):=by
 cases hz:zj9 p
 ·by_cases hc:(zaR p).2=0
  ·by_cases hs:(zbf (expF p)).2=0
   ·have hh:=zd2 p (by omega)
    have ha:=zdS
    have c1:=zgE p (by omega)
    have cx:=zgg p hw _ (fun h=>absurd hc h) (fun _ _=>rfl) (fun _ h=>absurd hs h)
    rw[hz]at hh
    by_cases h0:0<countP p.nodes
    ·have f1:=zgV p (by omega) zc5 (by decide)
     have f2:=zgV p (by omega) sAt (by decide)
     have hsh:=ziI hc
     rw[<-zph (ztL hsh)]at f1 f2
     obtain⟨tg,E,hE⟩:=znk h0 (zso hsh)
     have hpr:zax ⟨(expF p).enums,(expF p).nodes.map plnN⟩=[.sl 2 (p.enums.map enT++(.ag [.s (zaF (zbl 100000000 p) zc5),.sl 1 (T.s (zaF (zbl 100000000 p) sAt)::tg.map T.s)])::E.map enT),zaA ((expF p).nodes.map plnN)]:=by
      rw[hE]
      unfold zax
      rw[qal,qaj]
      rfl
     rw[hpr]at cx
     generalize zaA ((expF p).nodes.map plnN)=N at*
     generalize zaF (zbl 100000000 p) zc5=m1 at*
     generalize zaF (zbl 100000000 p) sAt=m2 at*
     have hml:(p.enums.map enT).length=p.enums.length:=qaa _
     have hx:(p.enums.map enT++(.ag [.s m1,.sl 1 (T.s m2::tg.map T.s)])::E.map enT)[p.enums.length]?=some (.ag [.s m1,.sl 1 (T.s m2::tg.map T.s)]):=by
      rw[qaB (by omega),hml,qbz]
      rfl
     have hlen:(p.enums.map enT++(.ag [.s m1,.sl 1 (T.s m2::tg.map T.s)])::E.map enT).length=p.enums.length+E.length+1:=by
      rw[qaf,qam,qaa,qaa]
      omega
     generalize p.enums.map enT++(.ag [.s m1,.sl 1 (T.s m2::tg.map T.s)])::E.map enT=L at*
     generalize countP p.nodes=a at*
     unfold zax at*
     clear hE hpr hs hz
     rw[<-hml]at hx
     refine so Tryz.func8 ?_
     repeat' (first|refine wkt ?_|refine wka ?_|refine wv hh ?_|refine wv ha ?_|refine wv cx ?_|refine wv c1 ?_|refine wv f1 ?_|refine wv f2 ?_|exact wkc|(intro hc;exact absurd rfl hc)|(intro hc;exfalso;omega)|intro hc|(apply TO.want;exact rfl)|refine wk2 ?_ ?_|refine zqq ?_|refine zqp ?_|refine wk ?_|fail)
     exact wkr
    ·have h1:countP p.nodes=0:=by omega
     rw[h1]at c1
     unfold zax at*
     refine so Tryz.func8 ?_
     repeat' (first|refine wu ?_|exact wkc|intro hc|refine wk2 ?_ ?_|refine wv hh ?_|refine wv ha ?_|refine wv cx ?_|refine wv c1 ?_|fail)
     all_goals first
      | exact wkr
      | (exfalso;omega)
   ·exact zlF p hw hz 3 (by decide) (zgg p hw _ (fun h=>absurd hc h) (fun _ h=>absurd h hs) (fun _ _=>rfl))
  ·exact zlF p hw hz _ hc (zgg p hw _ (fun _=>rfl) (fun h=>absurd h hc) (fun h=>absurd h hc))
 ·have hh:=zd2 p (by omega)
  have ha:=zdS
  rw[hz]at hh
  unfold zax at*
  refine so Tryz.func8 ?_
  repeat' (first|refine wu ?_|exact wkc|intro hc|refine wk2 ?_ ?_|refine wv hh ?_|refine wv ha ?_|fail)
  exact wkr
end Go.Proofs.YtpnnpgbaiobbjaaGreatDoor
namespace Go.TL
open Go
variable {Hh:Type}{enc:TypeId×Value->Hh}{P:Program}
def aggB(P:Program)(t:TypeId):Bool:=
 match P.underlying t with
 | some (.struct _)=>true
 | _=>false
def zbY(P:Program)(l:List TypeId):Bool:=l.all fun t=>match P.underlying t with
 | some .bool|some (.int _)|some .string=>P.cellsOf t == 1
 | some (.slice e)=>P.cellsOf t == 1 && l.contains e && Nat.blt 0 (P.cellsOf e)
 | some (.struct fs)=>fs.toList.all fun f=>l.contains f.type
 | _=>false
def mkT(agg:Bool)(ts:List T):T:=bif agg then .ag ts else ts.headD (.v undef)
def TyD(P:Program):Nat->TypeId->DataW Hh->List T->Prop
 | 0,_,_,_=>False
 | n+1,t,d,ts=>match P.underlying t with
   | some .bool=>∃b,d= .lit (.bool b)/\ts=[.v (.bool b)]
   | some (.int k)=>∃i,d= .lit (.int k i)/\ts=[.v (.int k i)]/\(Lit.int k i).wf=true
   | some .string=>∃l:List UInt8,d= .lit (.string l)/\ts=[.v (str l)]/\l.length≤maxLen
   | some (.slice e)=>∃(els sp:List (DataW Hh)) (es:List T),((d= .nil/\els=[])\/d= .slice els sp)/\ts=[.sl (P.cellsOf e) es]/\es.length=els.length/\es.length≤maxLen/\
      ∀(i:Nat) x y,els[i]?=some x->es[i]?=some y->y=mkT (aggB P e) y.cells/\TyD P n e x y.cells
   | some (.struct fs)=>∃xs:List (DataW Hh),d= .agg xs/\ts.length=P.cellsOf t/\xs.length=fs.size/\∀(i:Nat) f x,fs[i]?=some f->xs[i]?=some x->TyD P n f.type x ((ts.drop f.offset).take (P.cellsOf f.type))
   | _=>False
theorem zcy{l:List TypeId}(hl:zbY P l=true){t:TypeId}(ht:t∈l)(ha:aggB P t=false):P.cellsOf t=1:=by
 have:=qaz.1 hl t ht
 unfold aggB at ha
 split at this <;> simp_all
theorem zui{w:World}{b o:Nat}{y:Value}(h:w.cell? ⟨b,o,none⟩=some y):b<w.heap.size:=by
 unfold World.cell? at h
 cases hq:w.heap[b]? with
 | none=>rw[hq]at h;cases h
 | some ob=>exact(qak.1 hq).1
theorem zhV{A:Foot}{w:World}{n:Nat}{cs:List Value}:∀(gs:List Field) (xs:List (DataW Hh)) (o:Nat),(∀(j:Nat) g,gs[j]?=some g->g.offset=o+((gs.take j).map fun f=>P.cellsOf f.type).sum)->o+(gs.map fun f=>P.cellsOf f.type).sum≤cs.length->
  xs.length=gs.length->(∀(j:Nat) g x,gs[j]?=some g->xs[j]?=some x->∃ts:List T,ts.length=((cs.drop g.offset).take (P.cellsOf g.type)).length/\(∀(i:Nat) c y,ts[i]?=some c->((cs.drop g.offset).take (P.cellsOf g.type))[i]?=some y->TRel A w c y)/\TyD P n g.type x ts)->
  ∃ts:List T,ts.length=(gs.map fun f=>P.cellsOf f.type).sum/\(∀(i:Nat) c y,ts[i]?=some c->cs[o+i]?=some y->TRel A w c y)/\(∀(j:Nat) g x,gs[j]?=some g->xs[j]?=some x->TyD P n g.type x ((ts.drop (g.offset-o)).take (P.cellsOf g.type)))
 | [],xs,o,_,_,hx,_=>⟨[],rfl,by simp,by simp⟩
 | g::gs,xs,o,ho,hl,hx,hf=>by
   cases xs with
   | nil=>simp at hx
   | cons x xs=>
     have h0:g.offset=o:=by simpa using ho 0 g rfl
     simp only[qaj,qan]at hl
     obtain⟨t0,a1,a2,a3⟩:=hf 0 g x rfl rfl
     have a1':t0.length=P.cellsOf g.type:=by rw[a1,h0];simp;omega
     obtain⟨ts,b1,b2,b3⟩:=zhV gs xs (o+P.cellsOf g.type) (fun j f hj=>by
      have:=ho (j+1) f (by simpa using hj)
      simp only[qaM,qaj,qan]at this
      omega) (by omega) (by simpa using hx) (fun j f y hj hy=>hf (j+1) f y (by simpa using hj) (by simpa using hy))
     refine⟨t0++ts,by simp[a1',b1],fun i c y hc hy=>?_,fun j f y hj hy=>?_⟩
     ·by_cases hi:i<t0.length
      ·rw[qau hi]at hc
       refine a2 i c y hc ?_
       rw[qaV,if_pos (by omega),qa9,h0];exact hy
      ·rw[qaB (by omega)]at hc
       refine b2 _ c y hc ?_
       rw[show o+P.cellsOf g.type+(i-t0.length)=o+i from by omega];exact hy
     ·cases j with
      | zero=>
        simp at hj hy
        subst hj;subst hy
        rw[h0,qbz,qbn,<-a1',qcJ]
        exact a3
      | succ j=>
        have hj':gs[j]?=some f:=by simpa using hj
        have:=ho (j+1) f hj
        simp only[qaM,qaj,qan]at this
        have hd:(t0++ts).drop (f.offset-o)=ts.drop (f.offset-(o+P.cellsOf g.type)):=by
         rw[show f.offset-o=t0.length+(f.offset-(o+P.cellsOf g.type)) from by omega,qcv,List.drop_eq_nil_of_le (by omega),qa7,Nat.add_sub_cancel_left]
        rw[hd]
        exact b3 j f y hj' (by simpa using hy)
theorem zoi:∀(gs:List Field) (o i:Nat),(∀(j:Nat) g,gs[j]?=some g->g.offset=o+((gs.take j).map fun f=>P.cellsOf f.type).sum)->o≤i->i<o+(gs.map fun f=>P.cellsOf f.type).sum->∃(j:Nat) (g:Field),gs[j]?=some g/\g.offset≤i/\i<g.offset+P.cellsOf g.type
 | [],o,i,_,h1,h2=>by simp at h2;omega
 | g::gs,o,i,ho,h1,h2=>by
   have h0:g.offset=o:=by simpa using ho 0 g rfl
   simp only[qaj,qan]at h2
   by_cases hi:i<o+P.cellsOf g.type
   ·exact⟨0,g,rfl,by omega,by omega⟩
   ·obtain⟨j,f,hj,h3⟩:=zoi gs (o+P.cellsOf g.type) i (fun j f hj=>by
     have:=ho (j+1) f (by simpa using hj)
     simp only[qaM,qaj,qan]at this
     omega) (by omega) (by omega)
    exact⟨j+1,f,by simpa using hj,h3⟩
theorem zpx{w:World}{base:Nat}{held:Bool}{l:List TypeId}(hl:zbY P l=true)(hK:∀t∈l,∀fs:Array Field,P.underlying t=some (.struct fs)->P.cellsOf t=(fs.toList.map fun f=>P.cellsOf f.type).sum/\∀(j:Nat) f,fs.toList[j]?=some f->f.offset=((fs.toList.take j).map fun f=>P.cellsOf f.type).sum):∀(n:Nat) (t:TypeId) (cs:List Value) (d:DataW Hh) (ps:List MemPlace),t∈l->DataW.trod enc P w base (fun _=>true) held n t cs=some (d,ps)->
  ∃ts:List T,ts.length=cs.length/\(∀(i:Nat) x,cs[i]?=some x->x.oneCell'=true)/\(∀(i:Nat) c x,ts[i]?=some c->cs[i]?=some x->TRel (fun b _=>b<w.heap.size) w c x)/\TyD P n t d ts:=by
 intro n
 induction n with
 | zero=>intro t cs d ps ht h;simp[DataW.trod]at h
 | succ n ih=>
   intro t cs d ps ht h
   have hp:=qaz.1 hl t ht
   have one:∀(x:Value) (c:T),x.oneCell'=true->TRel (fun b _=>b<w.heap.size) w c x->(∀(i:Nat) y,[x][i]?=some y->y.oneCell'=true)/\(∀(i:Nat) c' y,[c][i]?=some c'->[x][i]?=some y->TRel (fun b _=>b<w.heap.size) w c' y):=by
    intro x c hx hr
    refine⟨fun i y hy=>?_,fun i c' y hc hy=>?_⟩
    ·cases i with
     | zero=>simp at hy;subst hy;exact hx
     | succ i=>simp at hy
    ·cases i with
     | zero=>simp at hy hc;subst hy;subst hc;exact hr
     | succ i=>simp at hy
   cases hu:P.underlying t with
   | none=>rw[hu]at hp;cases hp
   | some td=>
     rw[hu]at hp
     cases td with
     | bool=>
       obtain⟨b,rfl,hx⟩:=DataW.trod_bool hu h
       cases hx
       obtain⟨o1,o2⟩:=one (.bool b) (.v (.bool b)) rfl (.v _)
       exact⟨[.v (.bool b)],rfl,o1,o2,by simp only[TyD,hu];exact⟨b,rfl,rfl⟩⟩
     | int k=>
       obtain⟨i,rfl,hx,hwf⟩:=DataW.trod_int hu h
       cases hx
       obtain⟨o1,o2⟩:=one (.int k i) (.v (.int k i)) rfl (.v _)
       exact⟨[.v (.int k i)],rfl,o1,o2,by simp only[TyD,hu];exact⟨i,rfl,rfl,hwf⟩⟩
     | string=>
       obtain⟨s,rfl,hx,hlen⟩:=DataW.trod_string hu h
       cases hx
       obtain⟨a⟩:=s
       obtain⟨o1,o2⟩:=one (.string ⟨a⟩) (.v (str a.toList)) rfl (.v _)
       exact⟨[.v (str a.toList)],rfl,o1,o2,by simp only[TyD,hu];exact⟨a.toList,rfl,rfl,hlen⟩⟩
     | slice e=>
       simp only[qay,qbP,beq_iff_eq]at hp
       obtain⟨⟨_,he⟩,hpos⟩:=hp
       have hpos':0<P.cellsOf e:=by simpa [qbo]using hpos
       rcases DataW.trod_slice hu h with ⟨rfl,hx⟩|⟨a,len,cap,elems,rest,n',hn,rfl,hx,hb,hlc,hcm,hel,hat,hsp,_⟩
       ·cases hx
        obtain⟨o1,o2⟩:=one (.slice none 0 0) (.sl (P.cellsOf e) []) rfl (.nil _)
        exact⟨[.sl (P.cellsOf e) []],rfl,o1,o2,by simp only[TyD,hu];exact⟨[],[],[],by simp,rfl,rfl,qaK _,by simp⟩⟩
       ·cases hn
        cases hx
        have hev:∀i,i<len->∃(cs':List Value) (x:DataW Hh×List MemPlace) (ts:List T),w.cells? base (a.add (i*P.cellsOf e)) (P.cellsOf e)=some cs'/\elems[i]?=some x/\ts.length=cs'.length/\(∀(j:Nat) y,cs'[j]?=some y->y.oneCell'=true)/\
          (∀(j:Nat) c y,ts[j]?=some c->cs'[j]?=some y->TRel (fun b _=>b<w.heap.size) w c y)/\TyD P n e x.1 ts:=by
         intro i hi
         have hx:elems[i]?=some (elems[i]'(by omega)):=qac _
         have:=hat i hi
         rw[hx,qap]at this
         obtain⟨cs',h1,h2⟩:=this
         obtain⟨ts,g1,g2,g3,g4⟩:=ih e cs' _ _ he h2
         exact⟨cs',_,ts,h1,hx,g1,g2,g3,g4⟩
        have hspot:0<cap->a.spot=none:=by
         intro hc
         have key:∃i cs',i<cap/\i=0/\w.cells? base (a.add (i*P.cellsOf e)) (P.cellsOf e)=some cs':=by
          by_cases hl0:0<len
          ·obtain⟨cs',_,_,h1,_⟩:=hev 0 hl0
           exact⟨0,cs',hc,rfl,h1⟩
          ·have hlen:len=0:=by omega
           obtain⟨h1,h2⟩:=hsp rfl
           have hr:rest[0]?=some (rest[0]'(by omega)):=qac _
           have:=h2 0 (by omega)
           rw[hr,qap]at this
           obtain⟨cs',h3,_⟩:=this
           exact⟨0,cs',hc,rfl,by rw[hlen]at h3;simpa using h3⟩
         obtain⟨i,cs',_,rfl,h1⟩:=key
         obtain⟨_,_,h3⟩:=World.cells?_some h1
         obtain⟨_,h4,_⟩:=World.cells?_some h1
         have h5:=h3 0 hpos'
         have h6:cs'[0]?=some (cs'[0]'(by omega)):=qac _
         rw[h6]at h5
         simp only[qb5,Addr.add,if_true]at h5
         unfold World.cell? at h5
         split at h5
         ·split at h5
          ·cases h5
          ·rename_i hs;simpa using hs
         ·cases h5
        by_cases hcap0:cap=0
        ·subst hcap0
         have hl0:len=0:=by omega
         subst hl0
         have he0:elems=[]:=qaP hel
         subst he0
         obtain⟨o1,o2⟩:=one (.slice (some a) 0 0) (.sl (P.cellsOf e) []) rfl (.empty _ _)
         exact⟨[.sl (P.cellsOf e) []],rfl,o1,o2,by simp only[TyD,hu];exact⟨[],_,[],.inr rfl,rfl,rfl,qaK _,by simp⟩⟩
        obtain⟨ab,ao,asp⟩:=a
        have has:=hspot (by omega)
        simp only at has
        subst has
        have hex:∀i,∃ts:List T,i<len->∃(cs':List Value) (x:DataW Hh×List MemPlace),w.cells? base ((⟨ab,ao,none⟩:Addr).add (i*P.cellsOf e)) (P.cellsOf e)=some cs'/\elems[i]?=some x/\ts.length=cs'.length/\(∀(j:Nat) y,cs'[j]?=some y->y.oneCell'=true)/\
          (∀(j:Nat) c y,ts[j]?=some c->cs'[j]?=some y->TRel (fun b _=>b<w.heap.size) w c y)/\TyD P n e x.1 ts:=by
         intro i
         by_cases hi:i<len
         ·obtain⟨cs',x,ts,h⟩:=hev i hi
          exact⟨ts,fun _=>⟨cs',x,h⟩⟩
         ·exact⟨[],fun h=>absurd h hi⟩
        obtain⟨f,hf⟩:=qbL hex
        have hfl:∀i,i<len->(f i).length=P.cellsOf e:=by
         intro i hi
         obtain⟨cs',x,h1,h2,h3,_⟩:=hf i hi
         obtain⟨_,h4,_⟩:=World.cells?_some h1
         omega
        have hmk:∀i,i<len->(mkT (aggB P e) (f i)).cells=f i:=by
         intro i hi
         unfold mkT
         cases ha:aggB P e with
         | true=>rfl
         | false=>
           have h1:=hfl i hi
           rw[zcy hl he ha]at h1
           match hfi:f i,h1 with
           | [c],_=>
             obtain⟨cs',x,g1,g2,g3,g4,g5,g6⟩:=hf i hi
             rw[hfi]at g6
             have:∀l,c≠ .ag l:=by
              intro l hc
              subst hc
              cases n with
              | zero=>exact g6
              | succ n=>
                have hpe:=qaz.1 hl e he
                unfold aggB at ha
                simp only[TyD]at g6
                split at g6 <;> simp_all
             cases c with
             | ag l=>exact absurd rfl (this l)
             | _=>rfl
        have hcell:∀i j,i<len->j<P.cellsOf e->∃y,w.cell? ⟨ab,ao+(i*P.cellsOf e+j),none⟩=some y/\y.oneCell'=true/\∀c,(f i)[j]?=some c->TRel (fun b _=>b<w.heap.size) w c y:=by
         intro i j hi hj
         obtain⟨cs',x,g1,g2,g3,g4,g5,g6⟩:=hf i hi
         obtain⟨_,h4,h5⟩:=World.cells?_some g1
         have h6:=h5 j hj
         have h7:cs'[j]?=some (cs'[j]'(by omega)):=qac _
         rw[h7,zbx,zbx,qa1]at h6
         exact⟨_,h6,g4 j _ h7,fun c hc=>g5 j c _ hc h7⟩
        obtain⟨es,hes⟩:∃es:List T,es=(List.range len).map fun i=>mkT (aggB P e) (f i):=⟨_,rfl⟩
        have hesl:es.length=len:=by rw[hes];simp
        have heg:∀(i:Nat) y,es[i]?=some y->i<len/\y=mkT (aggB P e) (f i):=by
         intro i y hy
         have hi:=(qab.1 hy).1
         rw[hesl]at hi
         refine⟨hi,?_⟩
         rw[hes]at hy
         simp[hi]at hy
         exact hy.symm
        have hrel:TRel (fun b _=>b<w.heap.size) w (.sl (P.cellsOf e) es) (.slice (some ⟨ab,ao,none⟩) es.length cap):=by
         have dm:∀i j,j<P.cellsOf e->(i*P.cellsOf e+j) / P.cellsOf e=i/\(i*P.cellsOf e+j) % P.cellsOf e=j:=fun i j hj=>by
          rw[qcl]
          exact⟨by rw[Nat.mul_add_div hpos',Nat.div_eq_of_lt hj];rfl,by rw[Nat.mul_add_mod,Nat.mod_eq_of_lt hj]⟩
         refine .sl _ es ab ao cap (fun q=>(w.cell? ⟨ab,ao+q,none⟩).getD undef) (by omega) (fun i y hy=>?_) (fun i j hi hj=>?_) (fun i j hi hj=>?_) (fun i j hi hj=>?_) (fun i y j c hy hc=>?_)
         ·obtain⟨hi,rfl⟩:=heg i y hy
          rw[hmk i hi,hfl i hi]
         ·obtain⟨y,h1,_⟩:=hcell i j (by omega) hj
          exact zui h1
         ·obtain⟨y,h1,_⟩:=hcell i j (by omega) hj
          rw[h1];rfl
         ·obtain⟨y,h1,h2,_⟩:=hcell i j (by omega) hj
          simp only[h1];exact h2
         ·obtain⟨hi,rfl⟩:=heg i y hy
          rw[hmk i hi]at hc
          have hj:j<P.cellsOf e:=by rw[<-hfl i hi];exact(qab.1 hc).1
          obtain⟨y,h1,h2,h3⟩:=hcell i j hi hj
          simp only[h1];exact h3 c hc
        rw[hesl]at hrel
        obtain⟨o1,o2⟩:=one (.slice (some ⟨ab,ao,none⟩) len cap) (.sl (P.cellsOf e) es) rfl hrel
        refine⟨[.sl (P.cellsOf e) es],rfl,o1,o2,?_⟩
        simp only[TyD,hu]
        refine⟨elems.map (·.1),rest.map (·.1),es,.inr rfl,rfl,by rw[hesl,qaa,hel],by omega,fun i x y hx hy=>?_⟩
        obtain⟨hi,rfl⟩:=heg i y hy
        rw[hmk i hi]
        refine⟨rfl,?_⟩
        obtain⟨cs',x',g1,g2,g3,g4,g5,g6⟩:=hf i hi
        rw[qav,g2]at hx
        cases hx
        exact g6
     | struct fs=>
       obtain⟨xs,n',hn,hx,hlen,hxl,hat⟩:=DataW.trod_struct hu h
       cases hn
       cases hx
       have hpf:∀f∈fs.toList,f.type∈l:=by
        intro f hf
        simpa using qaz.1 hp f hf
       obtain⟨hk1,hk2⟩:=hK t ht fs hu
       have hfield:∀(j:Nat) g,fs.toList[j]?=some g->∃x,xs[j]?=some x/\DataW.trod enc P w base (fun _=>true) held n g.type ((cs.drop g.offset).take (P.cellsOf g.type))=some x:=by
        intro j g hg
        have hj:=(qab.1 hg).1
        have hx:xs[j]?=some (xs[j]'(by simp at hj;omega)):=qac _
        exact⟨_,hx,by rw[hat j g (by simpa using hg),hx]⟩
       obtain⟨ts,g1,g2,g3⟩:=zhV (A:=fun b _=>b<w.heap.size) (w:=w) (n:=n) (cs:=cs) (P:=P) fs.toList (xs.map (·.1)) 0 (fun j g hg=>by rw[qaO];exact hk2 j g hg) (by omega) (by simpa using hxl) (fun j g x hg hx=>by
        obtain⟨x',h1,h2⟩:=hfield j g hg
        rw[qav,h1]at hx
        cases hx
        obtain⟨ts,e1,e2,e3,e4⟩:=ih g.type _ x'.1 x'.2 (hpf g (qat hg)) h2
        exact⟨ts,e1,e3,e4⟩)
       refine⟨ts,by omega,fun i x hi=>?_,fun i c x hc hx=>g2 i c x hc (by rw[qaO];exact hx),?_⟩
       ·obtain⟨j,g,hj,hoi,hoi2⟩:=zoi (P:=P) fs.toList 0 i (fun j g hg=>by rw[qaO];exact hk2 j g hg) (qaK _) (by have:=(qab.1 hi).1;omega)
        obtain⟨x',h1,h2⟩:=hfield j g hj
        obtain⟨ts',e1,e2,e3,e4⟩:=ih g.type _ x'.1 x'.2 (hpf g (qat hj)) h2
        refine e2 (i-g.offset) x ?_
        rw[qaV,if_pos (by omega),qa9,show g.offset+(i-g.offset)=i from by omega];exact hi
       ·simp only[TyD,hu]
        refine⟨xs.map (·.1),rfl,by omega,by rw[qaa];exact hxl,fun i f x hf hx=>?_⟩
        have:=g3 i f x (by simpa using hf) hx
        simpa using this
     | _=>cases hp
def Fits(P:Program):List TypeId->List (DataW Hh)->List T->Prop
 | [],[],[]=>True
 | t::ts,d::ds,y::ys=>(y=mkT (aggB P t) y.cells/\∃n,TyD P n t d y.cells)/\Fits P ts ds ys
 | _,_,_=>False
theorem zpt{w:World}{r:Reach}{base:Nat}{t:TypeId}{v:Value}(h:Value.okWide P w r base t v){l:List TypeId}(hl:zbY P l=true)(ht:t∈l)(ha:aggB P t=false):v.cells= #[v]:=by
 have:=qaz.1 hl t ht
 unfold aggB at ha
 unfold Value.okWide at h
 split at this <;> simp_all
 all_goals
  rename_i hu
  cases v <;> first|rfl|(simp[Cell.okWide,Cell.ok,hu]at h)
theorem zrX{l:List TypeId}(hl:zbY P l=true){n:Nat}{t:TypeId}{d:DataW Hh}{ts:List T}(ht:t∈l)(h:TyD P n t d ts)(hlen:ts.length=P.cellsOf t):(mkT (aggB P t) ts).cells=ts:=by
 unfold mkT
 cases ha:aggB P t with
 | true=>rfl
 | false=>
   rw[zcy hl ht ha]at hlen
   match ts,hlen with
   | [c],_=>
     have:∀l,c≠ .ag l:=by
      intro l hc
      subst hc
      cases n with
      | zero=>exact h
      | succ n=>
        have hpe:=qaz.1 hl t ht
        unfold aggB at ha
        simp only[TyD]at h
        split at h <;> simp_all
     cases c with
     | ag l=>exact absurd rfl (this l)
     | _=>rfl
theorem zkO{w:World}{base:Nat}{l:List TypeId}(hl:zbY P l=true)(hK:∀t∈l,∀fs:Array Field,P.underlying t=some (.struct fs)->P.cellsOf t=(fs.toList.map fun f=>P.cellsOf f.type).sum/\∀(j:Nat) f,fs.toList[j]?=some f->f.offset=((fs.toList.take j).map fun f=>P.cellsOf f.type).sum):
  ∀(ts:List TypeId) (vs:List Value) (ds:List (DataW Hh)) (ps:List MemPlace),(∀t∈ts,t∈l)->DataW.TrodAll enc P w 0 (fun _=>true) true ts vs ds ps->(∀(j:Nat) t v,ts[j]?=some t->vs[j]?=some v->Value.okWide P w .any base t v)->
  ∃ys:List T,Fits P ts ds ys/\ys.length=vs.length/\∀(i:Nat) y x,ys[i]?=some y->vs[i]?=some x->TRel (fun b _=>b<w.heap.size) w y x
 | [],vs,ds,ps,_,h,_=>by
   cases vs <;> cases ds <;> simp[DataW.TrodAll]at h
   exact⟨[],trivial,rfl,by simp⟩
 | t::ts,vs,ds,ps,ht,h,hok=>by
   obtain⟨v,vs',d,ds',p,q,rfl,rfl,rfl,h1,h2⟩:=ChangeShapes.trodAll_cons h
   have htl:=ht t qas
   obtain⟨fuel,h1⟩:=h1
   obtain⟨tr,g1,g2,g3,g4⟩:=zpx hl hK fuel t _ d p htl h1
   obtain⟨ys,k1,k2,k3⟩:=zkO hl hK ts vs' ds' q (fun t h=>ht t (qar _ h)) h2 (fun j t v a b=>hok (j+1) t v (by simpa using a) (by simpa using b))
   have hv:=hok 0 t v rfl rfl
   have hrel:TRel (fun b _=>b<w.heap.size) w (mkT (aggB P t) tr) v/\(mkT (aggB P t) tr).cells=tr:=by
    cases ha:aggB P t with
    | true=>
      have:∃cs,v= .agg cs:=by
       unfold aggB at ha
       unfold Value.okWide at hv
       split at ha
       ·rename_i hu
        rw[hu]at hv
        obtain⟨cs,rfl,_⟩:=hv
        exact⟨cs,rfl⟩
       ·cases ha
      obtain⟨cs,rfl⟩:=this
      refine⟨?_,rfl⟩
      exact .ag tr cs (by simpa [Value.cells]using g1.symm) (fun i y hy=>g2 i y (by simpa [Value.cells]using hy)) (fun i c y hc hy=>g3 i c y hc (by simpa [Value.cells]using hy))
    | false=>
      have hc:=zpt hv hl htl ha
      have hc2:=zrX hl htl g4 (by rw[zcy hl htl ha,g1,hc];rfl)
      rw[ha]at hc2
      refine⟨?_,hc2⟩
      rw[hc]at g1 g3
      match tr,g1 with
      | [c],_=>exact g3 0 c v rfl rfl
   refine⟨mkT (aggB P t) tr::ys,⟨⟨by rw[hrel.2],fuel,by rw[hrel.2];exact g4⟩,k1⟩,by simp[k2],fun i y x hy hx=>?_⟩
   cases i with
   | zero=>simp at hy hx;subst hy;subst hx;exact hrel.1
   | succ i=>exact k3 i y x (by simpa using hy) (by simpa using hx)
theorem zms{f:FuncId}{w:World}{ys:List T}{args:Array Value}(hS:Sound P f (ys.map .t) [] fun r H'=>r= .ret (.b true)/\H'=[])(hl:ys.length=args.size)(hr:∀(i:Nat) y x,ys[i]?=some y->args[i]?=some x->TRel (fun b _=>b<w.heap.size) w y x)
  (hg:Glob (fun b _=>b<w.heap.size) w):
  Calls P f args w fun e w'=>e= .returned (.bool true)/\RowKit.Below w.heap.size w w':=by
 have hm:HRel ⟨fun b _=>b<w.heap.size,[],[],w⟩:=⟨rfl,by simp,by simp,fun b o _ ⟨i,p,k,h,_⟩=>by simp at h,fun b o h=>h,by simp,hg⟩
 refine Calls.mono (hS.2 ⟨fun b _=>b<w.heap.size,[],[],w⟩ args rfl hm ⟨by simp[hl],fun i s x hs hx=>?_⟩) ?_
 ·rw[qav]at hs
  cases hy:ys[i]? with
  | none=>rw[hy]at hs;cases hs
  | some y=>rw[hy]at hs;cases hs;exact .t _ _ (hr i y x hy hx)
 ·rintro e w' ⟨m',r,rfl,s,hm',hrr,rfl,hH⟩
  cases e with
  | returned x=>
    refine⟨by rw[SRel.v_eq hrr],s.os,s.tape,s.output,s.size,fun b hb=>s.block b hb fun o ⟨i,p,k,h,_⟩=>by simp at h⟩
  | _=>simp[zbV]at hrr
section law
open RowKit WideShapes ChangeShapes
theorem zpz{f:Func}{s:ChangeSpec}{apart fresh handsOn again:Bool}{W W':World}{args:Array Value}{v:Value}{ds gs:List (DataW Hh)}{before pa pv:List MemPlace}
  (hW:DataW.Whole enc P f.params.toList s.vars apart W args.toList ds gs before)
  (hres:∀(b:Nat) (sp:Nat->Bool) (hd:Bool),DataW.TrodAll enc P W' b sp hd f.resultTypes.toList (v.resultList f.resultTypes.size) (s.fn Hh (ds++gs)).results [])
  (hargs:∀sp:Nat->Bool,(∀p∈before,sp p.block=true)->DataW.TrodAll enc P W' 0 sp true f.params.toList args.toList (s.fn Hh (ds++gs)).args pa)
  (hvars:∀sp:Nat->Bool,(∀p∈before,sp p.block=true)->DataW.TrodVars enc P W' sp s.vars (s.fn Hh (ds++gs)).vars pv)
  (hps:before=pa++pv)(hb:Below W.heap.size W W')
  (hok:∀(j:Nat) (t:TypeId) (r:Value),f.resultTypes[j]?=some t->(v.resultList f.resultTypes.size)[j]?=some r->Value.okWide P W' .any 0 t r):
  s.post enc P f apart fresh handsOn again W args v W':=by
 have hlt:∀p∈before,p.block<W.heap.size:=fun p hp=>hW.lt p hp
 have hold:∀p∈before,(fun b=>decide (b<W.heap.size)) p.block=true:=fun p hp=>by simpa using hlt p hp
 refine⟨ds,gs,before,[],pa,pv,hW,hres _ _ _,hargs _ hold,hvars _ hold,World.keptBut_mono (fun p hp=>⟨hp,?_⟩) (hb.frame (·∈before)),fun _=>?_⟩
 ·rw[hps,qaF]at hp
  exact Or.inr hp
 ·obtain⟨_,_,_,_,_,hz,hn⟩:=hW
  refine⟨hok,_,_,([]++pa)++pv,⟨[]++pa,pv,trodAll_append (hargs _ (fun _ _=>rfl)) (hres _ _ _),hvars _ (fun _ _=>rfl),rfl,?_,?_⟩,?_⟩
  ·intro b off hp
   have hin:MemPlace.cell b off∈before:=by rw[hps];simpa using hp
   rw[hb.frozen (hlt _ hin)]
   exact hz b off hin
  ·intro ha
   have:=hn ha
   rw[hps]at this
   simpa using this
  ·intro p hp _
   rw[hps]
   simpa using hp
theorem zjv{l:List TypeId}(hl:zbY P l=true)(hlaid:laidOutB P=true)(hmaps:mapsRowed P=true)(hrows:∀t∈l,t<P.types.size):Kids P (·∈l):=by
 have K:=kids_rows hlaid hmaps
 have hp:∀t∈l,_:=qaz.1 hl
 refine⟨fun{t e} ht hu=>?_,fun{t e} ht hu=>?_,fun{t e n} ht hu=>?_,fun{t fs} ht hu=>?_,fun{t k e} ht hu=>?_⟩
 ·have:=hp t ht;simp[hu]at this
 ·have:=hp t ht
  simp only[hu,qay,qbP]at this
  exact this.1.2
 ·have:=hp t ht;simp[hu]at this
 ·obtain⟨_,k2,k3⟩:=K.struct (hrows t ht) hu
  refine⟨fun f hf=>?_,k2,k3⟩
  have:=hp t ht
  simp only[hu,qaz]at this
  simpa using this f hf
 ·have:=hp t ht;simp[hu]at this
theorem ziD{l:List TypeId}(hl:zbY P l=true)(hlaid:laidOutB P=true)(hmaps:mapsRowed P=true)(hrows:∀t∈l,t<P.types.size){W W':World}(hb:Below W.heap.size W W'){sp:Nat->Bool}:
  ∀(ts:List TypeId) (vs:List Value) (ds:List (DataW Hh)) (ps:List MemPlace),(∀t∈ts,t∈l)->(∀p∈ps,p.block<W.heap.size)->(∀p∈ps,sp p.block=true)->DataW.TrodAll enc P W 0 (fun _=>true) true ts vs ds ps->DataW.TrodAll enc P W' 0 sp true ts vs ds ps
 | [],vs,ds,ps,_,_,_,h=>by
   cases vs <;> cases ds <;> simp[DataW.TrodAll]at h⊢
   exact h
 | t::ts,vs,ds,ps,ht,hlt,hsp,h=>by
   obtain⟨v,vs',d,ds',p,q,rfl,rfl,rfl,⟨fuel,h1⟩,h2⟩:=trodAll_cons h
   refine trodAll_cons_mk ⟨fuel,?_⟩ (ziD hl hlaid hmaps hrows hb ts vs' ds' q (fun t h=>ht t (qar _ h)) (fun p hp=>hlt p (qbQ _ hp)) (fun p hp=>hsp p (qbQ _ hp)) h2)
   refine DataW.trod_stays (T:=(·∈l)) (zjv hl hlaid hmaps hrows) (fun{t e} ht hu=>?_) (fun h=>by cases h) (ht t qas) h1 (fun x hx=>hb.same (hlt x (qbu _ hx))) (fun x hx=>hsp x (qbu _ hx))
   have:=qaz.1 hl t ht
   simp only[hu,qay]at this
   simpa [qbo]using this.2
theorem zlx{f:FuncId}{fn:Func}{s:ChangeSpec}{bt:TypeId}{l:List TypeId}{k:List (DataW Hh)->Prop}(hvars:s.vars=[])(hres:fn.resultTypes= #[bt])(hbt:P.underlying bt=some .bool)
  (hl:zbY P l=true)(hlaid:laidOutB P=true)(hmaps:mapsRowed P=true)(hrows:l.all (fun t=>Nat.blt t P.types.size)=true)(hin:fn.params.toList.all (fun t=>l.contains t)=true)
  (hspec:∀ds:List (DataW Hh),ds.length=fn.params.size->(s.fn Hh ds).results=[.lit (.bool true)]/\(s.fn Hh ds).args=ds/\(s.fn Hh ds).vars=[])
  (hS:∀(ds:List (DataW Hh)) ys,Fits P fn.params.toList ds ys->k ds->Sound P f (ys.map .t) [] fun r H'=>r= .ret (.b true)/\H'=[])
  (W:World)(base:Nat)(args:Array Value)(ds gs:List (DataW Hh))(before:List MemPlace)(hval:∀(j:Nat) t v,fn.params[j]?=some t->args[j]?=some v->Value.okWide P W .any base t v)
  (hW:DataW.Whole enc P fn.params.toList s.vars false W args.toList ds gs before)(hk:k (ds++gs))(hG:Glob (fun b _=>b<W.heap.size) W:=by intro b cs h;exact absurd h (gtab_none b cs)):
  Calls P f args W fun e W'=>∃v,e= .returned v/\s.post enc P fn false true false false W args v W':=by
 have hW':=hW
 obtain⟨p,q,hA,hV,rfl,hfz,hnd⟩:=hW
 rw[hvars]at hV
 obtain⟨rfl,rfl⟩:=trodVars_none hV
 simp only[qaQ]at hk hW'
 have hrows':∀t∈l,t<P.types.size:=fun t ht=>by have:=qaz.1 hrows t ht;simpa [qbo]using this
 have hin':∀t∈fn.params.toList,t∈l:=fun t ht=>by have:=qaz.1 hin t ht;simpa using this
 have K:=zjv hl hlaid hmaps hrows'
 obtain⟨ys,y1,y2,y3⟩:=zkO (enc:=enc) hl (fun t ht fs hu=>(K.struct ht hu).2) fn.params.toList args.toList ds p hin' hA (fun j t v a b=>hval j t v (by simpa using a) (by simpa using b))
 have hlen:ds.length=fn.params.size:=by
  have:∀(ts:List TypeId) (ds:List (DataW Hh)) (ys:List T),Fits P ts ds ys->ds.length=ts.length:=by
   intro ts
   induction ts with
   | nil=>intro ds ys h;cases ds <;> cases ys <;> simp_all [Fits]
   | cons t ts ih=>intro ds ys h;cases ds <;> cases ys <;> simp[Fits]at h⊢;exact ih _ _ h.2
  simpa using this _ _ _ y1
 obtain⟨s1,s2,s3⟩:=hspec ds hlen
 refine Calls.mono (zms (hS ds ys y1 hk) (by simpa using y2) (fun i y x hy hx=>y3 i y x hy (by simpa using hx)) hG) ?_
 rintro e W' ⟨rfl,hb⟩
 refine⟨_,rfl,zpz (pa:=p) (pv:=[]) hW' (fun b sp hd=>?_) (fun sp hsp=>?_) (fun sp hsp=>?_) (by simp) hb (ok_one hres rfl (okWide_bool_mk hbt _))⟩
 ·rw[qaQ,s1,hres]
  exact trodAll_cons_mk (shut_bool hbt _) trodAll_mk0
 ·rw[qaQ,s2]
  exact ziD hl hlaid hmaps hrows' hb _ _ _ _ hin' (fun x hx=>hW'.lt x (by simpa using hx)) (fun x hx=>hsp x (by simpa using hx)) hA
 ·rw[qaQ,s3,hvars]
  rfl
end law
end Go.TL
