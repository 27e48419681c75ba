import Derived.Test.YtpnnpgbaiobbjaaGreatDoorAk33
set_option linter.all false
namespace Go.Proofs.YtpnnpgbaiobbjaaGreatDoor
open Go Go.TL
attribute [local irreducible] TR TO Then zao RetK Sound zab Kf GG zaZ
theorem zhR(a:List Str)(e:Ex):(zbm a e).length≤a.length+(exT e).w:=by
 have h1:=zeH (f:=oneA) (g:=fun _=>1) (l:=flat e) (a:=a) fun a x _=>by
  unfold oneA
  split
  ·omega
  ·exact zdm a x.name
 have h2:=zdU e
 have h3:=zdI e
 rw[zin]at h1
 unfold zbm
 omega
theorem zll:∀(m:Nat) (a:List Str) (qs:List Equ) (l:List Auto),(zcv m a qs l).length≤a.length+(T.sl 7 (qs.map equT)).w+(T.sl 1 (l.map zae)).w
 | 0,a,_,_=>by rw[zcv];omega
 | m+1,a,qs,l=>by
   rw[zcv]
   have h1:=zcU (f:=fun(a:List Str) (q:Equ)=>zbm (q.left.foldl ins a) q.right) (g:=equT) 7 (l:=qs) (a:=a) fun a q _=>by
    have h2:=zhR (q.left.foldl ins a) q.right
    have h3:=zqZ q.left a
    have h4:=zai T.s 1 q.left
    rw[zno]at h4
    rw[zr4]
    omega
   have h4:=zcU (f:=fun(a:List Str) (x:Auto)=>x.states.foldl (fun a s=>(s.unl++s.unt).foldl (fun a t=>zbm a t.cond) (zcv m (za1 (ins a s.name) s.locals) s.eqs s.autos)) a) (g:=zae) 1 (l:=l) (a:=qs.foldl (fun a q=>zbm (q.left.foldl ins a) q.right) a) fun a x _=>by
    have h5:=zcU (f:=fun(a:List Str) (s:Sta)=>(s.unl++s.unt).foldl (fun a t=>zbm a t.cond) (zcv m (za1 (ins a s.name) s.locals) s.eqs s.autos)) (g:=staT) 6 (l:=x.states) (a:=a) fun a s _=>by
     have h6:=zll m (za1 (ins a s.name) s.locals) s.eqs s.autos
     have h7:=zjj (ins a s.name) s.locals
     have h8:=zdm a s.name
     have ht:∀(l:List Tran) (a:List Str),(l.foldl (fun a t=>zbm a t.cond) a).length≤a.length+(T.sl 8 (l.map zah)).w:=fun l a=>zcU 8 fun a t _=>by
      have h2:=zhR a t.cond
      have h3:=zr6 t
      omega
     rw[qbm]
     have h9:=ht s.unl (zcv m (za1 (ins a s.name) s.locals) s.eqs s.autos)
     have h10:=ht s.unt (s.unl.foldl (fun a t=>zbm a t.cond) (zcv m (za1 (ins a s.name) s.locals) s.eqs s.autos))
     rw[za8,w_ag]
     simp only[qaj,qay,qao,qaI,w_s]
     have e1:(zac s.locals).w=(T.sl 3 (s.locals.map zaa)).w:=rfl
     omega
    have h9:=zbJ x
    omega
   omega
theorem zqY(m:Nat)(a:List Str)(n:Nod):(zfO m a n).length≤a.length+2*(nodT n).w:=by
 have h1:=zdm a n.name
 have h2:=zjj (ins a n.name) (zaB n)
 have h3:=zll m (za1 (ins a n.name) (zaB n)) n.eqs n.autos
 have h5:∀(l:List Ex) (a:List Str),(l.foldl zbm a).length≤a.length+(T.sl 6 (l.map exT)).w:=fun l a=>zcU 6 fun a e _=>zhR a e
 have h6:=h5 n.assume (zcv m (za1 (ins a n.name) (zaB n)) n.eqs n.autos)
 have h7:=h5 n.ensure (n.assume.foldl zbm (zcv m (za1 (ins a n.name) (zaB n)) n.eqs n.autos))
 have h8:(zac (zaB n)).w=1+(wsum zaa n.ins+wsum zaa n.outs+wsum zaa n.locals):=by
  rw[zgm,show zac (n.ins++n.outs++n.locals)= .sl 3 ((n.ins++n.outs++n.locals).map zaa) from rfl,w_sl]
  simp[wsum,qaZ]
 have h9:=zoA n
 unfold zfO
 simp only[zno]at h3 h6 h7
 omega
theorem zq1(p:Prog):(zcg 100000000 p).length≤2*(T.ag (zax p)).w:=by
 have h1:=zcU (f:=ziD) (g:=enT) 2 (l:=p.enums) (a:=[]) fun a u _=>by
  have h2:=zqZ u.tags (ins a u.name)
  have h3:=zdm a u.name
  have h4:=zai T.s 1 u.tags
  rw[enT,w_ag]
  simp only[qaj,qay,qao,qaI,w_s]
  show(u.tags.foldl ins (ins a u.name)).length≤_
  omega
 have h2:=zeH (f:=zfO 100000000) (g:=fun n=>2*(nodT n).w) (l:=p.nodes) (a:=p.enums.foldl ziD []) fun a n _=>zqY _ a n
 have h3:∀l:List Nod,(l.map fun n=>2*(nodT n).w).sum=2*wsum nodT l:=by
  intro l
  induction l with
  | nil=>rfl
  | cons n l ih=>rw[qaj,qao,ih,zaR];omega
 rw[h3]at h2
 have h4:(T.ag (zax p)).w=1+((T.sl 2 (p.enums.map enT)).w+((1+wsum nodT p.nodes)+0)):=by
  rw[show zax p=[.sl 2 (p.enums.map enT),.sl 8 (p.nodes.map nodT)] from rfl,w_ag,qaj,qaj,qay,qao,qao,qaI,w_sl 8]
 unfold zcg
 simp only[qaD]at h1
 omega
theorem zvM{p:Prog}(h:OkP p)(hw:(T.ag (zax p)).w≤2200000){n:Nod}(hn:n∈p.nodes):NdK p.enums 3 384 n:=by
 have ho:=h.nodes n hn
 obtain⟨f1,f2,f3,f4,f5,f6,f7⟩:=ho.few
 have h4:(T.ag (zax p)).w=1+((T.sl 2 (p.enums.map enT)).w+((T.sl 8 (p.nodes.map nodT)).w+0)):=by rw[w_ag];rfl
 have h5:=zav (f:=nodT) (sz:=8) hn
 have hd:∀d∈zaB n,OkD p.enums d:=fun d hd=>by
  rw[zgm]at hd
  rcases qaF.1 hd with hd|hd
  ·rcases qaF.1 hd with hd|hd
   ·exact ho.ins d hd
   ·exact ho.outs d hd
  ·exact ho.locals d hd
 refine⟨f5,?_,fun d h=>(hd d h).few,by omega,fun a ha=>⟨ho.autos a ha,?_⟩,fun d h=>ztM (hd d h),by omega⟩
 ·rw[zhh]
  omega
 ·have h6:=zdJ n
  have h7:=zav (f:=zae) (sz:=1) ha
  omega
theorem gR3:gR 3 384=656297088:=by decide
theorem zmz{p:Prog}(h:OkP p)(hw:(T.ag (zax p)).w≤2200000):∀j,j≤p.nodes.length->Room (expJ p j).1.1 ((96-j)*1000000000)/\(expJ p j).1.2.length≤24+j*33288/\(expJ p j).2.length≤j*266305/\(∀u∈(expJ p j).1.2,u.tags.length≤16)/\(∀b∈(expJ p j).2,(nodT b).w≤90000000)/\∀i (hi:i<p.nodes.length),i<j->NodX 4 (expJ p i).1 p.nodes[i]
 | 0,_=>by
   refine⟨⟨zs3 p (by omega),?_⟩,?_,qaK _,fun u hu=>(h.enums u hu).few,(fun b hb=>by cases hb),fun i _ hi=>absurd hi (qbC _)⟩
   ·have:=zq1 p
    show(zcg 100000000 p).length+_≤_
    omega
   ·have:=h.few.1
    show p.enums.length≤_
    omega
 | j+1,hj=>by
   obtain⟨i1,i2,i3,i4,i5,i6⟩:=zmz h hw j (by omega)
   have hJn:expJ p (j+1)=((zaG 4 (expJ p j).1 p.nodes[j]).1,(expJ p j).2++(zaG 4 (expJ p j).1 p.nodes[j]).2):=zau (fun(q:(List Str×List En)×List Nod) n=>((zaG 4 q.1 n).1,q.2++(zaG 4 q.1 n).2)) _ (by omega)
   have e3:gE 3=33288:=by decide
   have b3:gB 3=266305:=by decide
   have hf:=h.few.2
   obtain⟨n1,n2,n3,n4,n5,n6⟩:=zob p.enums 3 384 (expJ p j).1 p.nodes[j] ((96-(j+1))*1000000000) (zvM h hw (qad _)) (by decide) (i1.mono (by rw[gR3];omega)) (by rw[e3];omega) (by decide) i4
   simp only[Nat.reduceAdd,e3]at n3
   simp only[Nat.reduceAdd,b3]at n4
   rw[hJn]
   refine⟨n2,?_,?_,n5,fun b hb=>?_,fun i hi hij=>?_⟩
   ·dsimp only
    omega
   ·dsimp only
    rw[qae]
    omega
   ·rcases qaF.1 hb with hb|hb
    ·exact i5 b hb
    ·exact n6 b hb
   ·by_cases he:i=j
    ·subst he
     exact n1
    ·exact i6 i hi (by omega)
theorem zqz(p:Prog):expF p=⟨(expJ p p.nodes.length).1.2,(expJ p p.nodes.length).2⟩:=by
 unfold expJ
 rw[qah]
 rfl
theorem zhD{p:Prog}(h:OkP p)(hw:(T.ag (zax p)).w≤2200000):ziV (expF p) 90000000:=by
 obtain⟨i1,i2,i3,i4,i5,_⟩:=zmz h hw p.nodes.length (qag _)
 have e3:gE 3=33288:=by decide
 have b3:gB 3=266305:=by decide
 have hf:=h.few.2
 rw[zqz]
 exact⟨by dsimp only;omega,fun u hu=>qaE (i4 u hu) (by decide),by dsimp only;omega,i5⟩
theorem zir{p:Prog}(h:(zaN p).2=0):(zb3 p).2=0:=qav fun hc=>by
 unfold zaN at h
 rw[if_pos hc]at h
 exact hc h
theorem zgJ{p:Prog}(h:(zb3 p).2=0):(zba p).2=0:=qav fun hc=>by
 unfold zb3 at h
 rw[if_pos hc]at h
 exact hc h
theorem zis{p:Prog}(h:(zaN p).2=0):(zba p).2=0:=zgJ (zir h)
theorem zf6(p:Prog)(hw:(T.ag (zax p)).w≤2200000)(v:SV)(h0:(zaN p).2≠0->v= .tup [.t (.ag [.sl 2 [],.sl 8 []]),.i (zaN p).2])
  (h1:(zaN p).2=0->(zba (expF p)).2=0->v= .tup [.t (.ag (zax ⟨(expF p).enums,(expF p).nodes.map plnN⟩)),.i 0])
  (h2:(zaN p).2=0->(zba (expF p)).2≠0->v= .tup [.t (.ag [.sl 2 [],.sl 8 []]),.i 3]):Pure Tryz.prog 11 [.t (.ag (zax p))] v:=by
 by_cases hc:(zaN p).2=0
 ·have ho:=ztN (zis hc)
  refine zfw p (by omega) hc (fun j hj=>?_) (zhD ho hw) v (h1 hc) (h2 hc)
  obtain⟨_,_,i3,_,_,i6⟩:=zmz ho hw (j+1) (by omega)
  have hf:=ho.few.2
  exact⟨i6 j hj (by omega),by omega⟩
 ·rw[h0 hc]
  exact zmA p (by omega) hc
def zbq:Nat->List Auto->Nat
 | 0,_=>0
 | m+1,l=>l.foldl (fun n a=>a.states.foldl (fun n s=>n+zbq m s.autos) n) l.length
def zea:Nat->List Auto->Nat
 | 0,_=>0
 | m+1,l=>l.foldl (fun n a=>max n (a.states.foldl (fun d s=>max d (zea m s.autos)) 0+1)) 0
theorem zmC{α:Type}{f:Nat->α->Nat}{g:α->Nat}:∀ {l:List α} (n:Nat),(∀x∈l,∀n,f n x≤n+g x)->l.foldl f n≤n+(l.map g).sum
 | [],n,_=>by simp
 | x::l,n,h=>by
   have h1:=h x (qas ..) n
   have h2:=zmC (l:=l) (f n x) fun y hy=>h y (qar _ hy)
   simp only[qaU,qaj,qao]
   omega
theorem zhH{α:Type}{f:Nat->α->Nat}(h:∀x n,n≤f n x):∀(l:List α) (n:Nat),n≤l.foldl f n
 | [],n=>qag _
 | x::l,n=>qaE (h x n) (zhH h l (f n x))
theorem zen{α:Type}{f:Nat->α->Nat}(h:∀x n,n≤f n x)(l:List α)(n j:Nat):(l.take j).foldl f n≤l.foldl f n:=by
 conv=>rhs;rw[<-qaS j l,qbm]
 exact zhH h _ _
theorem zdH{α:Type}{f g:α->Nat}:∀ {l:List α},(∀x∈l,f x≤g x)->(l.map f).sum≤(l.map g).sum
 | [],_=>by simp
 | x::l,h=>by
   have h1:=h x (qas ..)
   have h2:=zdH (l:=l) fun y hy=>h y (qar _ hy)
   simp only[qaj,qao]
   omega
theorem zoq{α:Type}{f:α->Nat}:∀ {l:List α},(l.map fun x=>f x+1).sum=(l.map f).sum+l.length
 | []=>by simp
 | x::l=>by
   have h2:=zoq (f:=f) (l:=l)
   simp only[qaj,qao,qam]
   omega
theorem count_le:∀(m:Nat) (l:List Auto),zbq m l≤(T.sl 1 (l.map zae)).w
 | 0,l=>qaK _
 | m+1,l=>by
   unfold zbq
   have h1:∀a∈l,∀n,a.states.foldl (fun n s=>n+zbq m s.autos) n≤n+(a.states.map fun s=>(staT s).w).sum:=fun a _ n=>zmC n fun s _ n=>by
    have h2:=count_le m s.autos
    have h3:=zdK s
    omega
   refine qaE (zmC (g:=fun a=>(a.states.map fun s=>(staT s).w).sum) _ h1) ?_
   have h4:∀a∈l,(a.states.map fun s=>(staT s).w).sum+1≤(zae a).w:=fun a _=>by
    have:=zbJ a
    rw[w_sl,qbp]at this
    have e:(T.w ∘ staT)=fun s=>(staT s).w:=rfl
    rw[e]at this
    omega
   have h5:=zdH h4
   rw[zoq]at h5
   rw[w_sl,qbp]
   have e:(T.w ∘ zae)=fun s=>(zae s).w:=rfl
   rw[e]
   omega
theorem zpY(m:Nat)(a:Auto)(n:Nat):n≤a.states.foldl (fun n s=>n+zbq m s.autos) n:=zhH (fun _ _=>by omega) _ _
theorem zh3:∀(m:Nat) (l:List Auto),zea m l≤m
 | 0,l=>qag _
 | m+1,l=>by
   unfold zea
   have hS:∀(L:List Sta) (d:Nat),d≤m->L.foldl (fun d s=>max d (zea m s.autos)) d≤m:=by
    intro L
    induction L with
    | nil=>intro d h;exact h
    | cons s L ih=>
      intro d h
      exact ih _ (qcJ.2 ⟨h,zh3 m s.autos⟩)
   have hA:∀(L:List Auto) (n:Nat),n≤m+1->L.foldl (fun n a=>max n (a.states.foldl (fun d s=>max d (zea m s.autos)) 0+1)) n≤m+1:=by
    intro L
    induction L with
    | nil=>intro d h;exact h
    | cons a L ih=>
      intro n h
      exact ih _ (qcJ.2 ⟨h,Nat.succ_le_succ (hS a.states 0 (qaK _))⟩)
   exact hA l 0 (qaK _)
def countP(p:List Nod):Nat:=p.foldl (fun n x=>n+zbq 100000001 x.autos) 0
def zuO(p:List Nod):Nat:=p.foldl (fun n x=>max n (zea 100000001 x.autos)) 0
theorem countP_eq(p:List Nod):countP p=(p.map fun x=>zbq 100000001 x.autos).sum:=by
 have:∀(l:List Nod) (n:Nat),l.foldl (fun n x=>n+zbq 100000001 x.autos) n=n+(l.map fun x=>zbq 100000001 x.autos).sum:=by
  intro l
  induction l with
  | nil=>intro n;simp
  | cons x l ih=>intro n;simp only[qaU,qaj,qao];rw[ih];omega
 unfold countP
 rw[this];omega
set_option maxHeartbeats 4000000 in
theorem zgD:∀(m:Nat) (l:List Auto),(T.sl 1 (l.map zae)).w≤100000000->(T.sl 1 (l.map zae)).w≤m->Pure Tryz.prog 40 [.t (.sl 1 (l.map zae))] (.i (zbq m l:Nat))
 | 0,l,_,hm=>by have:=ziS (T.sl 1 (l.map zae));omega
 | m+1,l,hl,hm=>by
   have ih:=zgD m
   have hml:(l.map zae).length=l.length:=qaa _
   have hlb:=zai zae 1 l
   have htot:=count_le (m+1) l
   unfold zbq at htot⊢
   obtain⟨fs,hfs⟩:∃fs:Nat->Sta->Nat,fs=fun n s=>n+zbq m s.autos:=⟨_,rfl⟩
   obtain⟨g,hg⟩:∃g:Nat->Auto->Nat,g=fun n x=>x.states.foldl fs n:=⟨_,rfl⟩
   rw[show(fun(n:Nat) (a:Auto)=>a.states.foldl (fun n s=>n+zbq m s.autos) n)=g by rw[hg,hfs]]at htot⊢
   have hge:∀a n,n≤g n a:=fun a n=>by rw[hg,hfs];exact zpY m a n
   refine so Tryz.func40 ?_
   repeat' (first|refine wkt ?_|fail)
   refine TR.zal l.length (fun _=>True) (fun j=>[(3,.i (((l.take j).foldl g l.length:Nat):Int)),(10,.t (.sl 1 (l.map zae))),(11,.i l.length),(12,.i j)]) (fun _=>[]) trivial (fun j hlt _=>?_) (fun _=>?_) ⟨by rw[<-hml];rfl,rfl,by rw[<-hml];rfl,rfl,trivial⟩ rfl
   ·have hx:=zar zae hlt
    rw[zbV]at hx
    have hn:=zau g l.length hlt
    have hup:(l.take (j+1)).foldl g l.length≤l.foldl g l.length:=zen hge l _ _
    have hsi:=fun s hs=>zgM (qad hlt) (s:=s) hs
    have hsb:l[j].states.length≤100000000:=by
     exact zwcw
    rw[hn]at hup
    generalize (l.take j).foldl g l.length=acc at*
    have hgx:g acc l[j]=l[j].states.foldl fs acc:=by rw[hg]
    rw[hgx]at hn hup
    clear hgx hge
    generalize l[j]=x at*
    obtain⟨sts⟩:=x
    simp only[Auto.states]at hx hn hup hsi hsb
    have hmc:(sts.map staT).length=sts.length:=qaa _
    repeat' (first|refine wkt ?_|refine zqp ?_|refine zab.exit ?_|exact wkc|intro hc|refine wk2 ?_ ?_|fail)
    refine TR.zal sts.length (fun _=>True) (fun k=>[(3,.i (((sts.take k).foldl fs acc:Nat):Int)),(10,.t (.sl 1 (l.map zae))),(11,.i l.length),(12,.i j),(17,.t (.sl 6 (sts.map staT))),(18,.i sts.length),(19,.i k)]) (fun _=>[]) trivial (fun k hlk _=>?_) (fun _=>?_) ⟨rfl,rfl,rfl,rfl,rfl,by rw[<-hmc];rfl,rfl,trivial⟩ rfl
    ·have hy:=zar staT hlk
     rw[za8]at hy
     have hn2:=zau fs acc hlk
     have hup2:(sts.take (k+1)).foldl fs acc≤sts.foldl fs acc:=zen (fun s n=>by rw[hfs];exact qbx _ _) sts _ _
     rw[hn2]at hup2
     have hw:=hsi _ (qad hlk)
     generalize (sts.take k).foldl fs acc=acc2 at*
     have hfx:fs acc2 sts[k]=acc2+zbq m sts[k].autos:=by rw[hfs]
     rw[hfx]at hn2 hup2
     have c2:=ih sts[k].autos (by omega) (by omega)
     generalize zbq m sts[k].autos=c at*
     generalize sts[k]=s at*
     repeat' (first|refine wkt ?_|refine zqq ?_|refine wv c2 ?_|refine zqw ?_|refine zab.exit ?_|exact wkc|intro hc|refine wk2 ?_ ?_|refine wk ?_|fail)
     exact zab.zat hlk trivial (by(try dsimp only);rw[hn2,qbT];exact⟨rfl,rfl,rfl,rfl,rfl,rfl,rfl,trivial⟩) rfl
    ·exact zwbj
   ·exact zwdk
theorem zmd(a b:Nat):((max a b:Nat):Int)=max (a:Int) (b:Int):=by omega
theorem zoa(m:Nat)(l:List Sta)(n:Nat)(h:n≤m):l.foldl (fun d s=>max d (zea m s.autos)) n≤m:=by
 induction l generalizing n with
 | nil=>exact h
 | cons s l ih=>
   exact ih _ (qcJ.2 ⟨h,zh3 m s.autos⟩)
theorem zsZ(m:Nat)(l:List Auto)(n:Nat)(h:n≤m+1):l.foldl (fun n a=>max n (a.states.foldl (fun d s=>max d (zea m s.autos)) 0+1)) n≤m+1:=by
 induction l generalizing n with
 | nil=>exact h
 | cons a l ih=>
   exact ih _ (qcJ.2 ⟨h,Nat.succ_le_succ (zoa m a.states 0 (qaK _))⟩)
set_option maxHeartbeats 4000000 in
theorem zh2:∀(m:Nat) (l:List Auto),m≤100000001->(T.sl 1 (l.map zae)).w≤100000000->(T.sl 1 (l.map zae)).w≤m->Pure Tryz.prog 42 [.t (.sl 1 (l.map zae))] (.i (zea m l:Nat))
 | 0,l,_,_,hm=>by have:=ziS (T.sl 1 (l.map zae));omega
 | m+1,l,hM,hl,hm=>by
   have ih:=fun l=>zh2 m l (by omega)
   have hml:(l.map zae).length=l.length:=qaa _
   have hlb:=zai zae 1 l
   unfold zea
   obtain⟨fs,hfs⟩:∃fs:Nat->Sta->Nat,fs=fun d s=>max d (zea m s.autos):=⟨_,rfl⟩
   obtain⟨g,hg⟩:∃g:Nat->Auto->Nat,g=fun n x=>max n (x.states.foldl fs 0+1):=⟨_,rfl⟩
   have hgb:∀j,(l.take j).foldl g 0≤m+1:=fun j=>by rw[hg,hfs];exact zsZ m _ 0 (qaK _)
   have hfb:∀L:List Sta,L.foldl fs 0≤m:=fun L=>by rw[hfs];exact zoa m L 0 (qaK _)
   rw[show(fun(n:Nat) (a:Auto)=>max n (a.states.foldl (fun d s=>max d (zea m s.autos)) 0+1))=g by rw[hg,hfs]]
   refine so Tryz.func42 ?_
   repeat' (first|refine wkt ?_|fail)
   refine TR.zal l.length (fun _=>True) (fun j=>[(3,.i (((l.take j).foldl g 0:Nat):Int)),(9,.t (.sl 1 (l.map zae))),(10,.i l.length),(11,.i j)]) (fun _=>[]) trivial (fun j hlt _=>?_) (fun _=>?_) ⟨rfl,rfl,by rw[<-hml];rfl,rfl,trivial⟩ rfl
   ·have hx:=zar zae hlt
    rw[zbV]at hx
    have hn:=zau g 0 hlt
    have hb1:=hgb j
    have hsi:=fun s hs=>zgM (qad hlt) (s:=s) hs
    have hsb:l[j].states.length≤100000000:=by
     exact zwcw
    generalize (l.take j).foldl g 0=acc at*
    have hgx:g acc l[j]=max acc (l[j].states.foldl fs 0+1):=by rw[hg]
    rw[hgx]at hn
    clear hgx hgb
    generalize l[j]=x at*
    obtain⟨sts⟩:=x
    simp only[Auto.states]at hx hn hsi hsb
    have hmc:(sts.map staT).length=sts.length:=qaa _
    repeat' (first|refine wkt ?_|refine zqp ?_|refine zab.exit ?_|exact wkc|intro hc|refine wk2 ?_ ?_|fail)
    refine TR.zal sts.length (fun _=>True) (fun k=>[(3,.i (acc:Int)),(6,.i (((sts.take k).foldl fs 0:Nat):Int)),(9,.t (.sl 1 (l.map zae))),(10,.i l.length),(11,.i j),(16,.t (.sl 6 (sts.map staT))),(17,.i sts.length),(18,.i k)]) (fun _=>[]) trivial (fun k hlk _=>?_) (fun _=>?_) ⟨rfl,rfl,rfl,rfl,rfl,rfl,by rw[<-hmc];rfl,rfl,trivial⟩ rfl
    ·have hy:=zar staT hlk
     rw[za8]at hy
     have hn2:=zau fs 0 hlk
     have hb2:=hfb (sts.take k)
     have hw:=hsi _ (qad hlk)
     generalize (sts.take k).foldl fs 0=acc2 at*
     have hfx:fs acc2 sts[k]=max acc2 (zea m sts[k].autos):=by rw[hfs]
     rw[hfx]at hn2
     have hc0:=zh3 m sts[k].autos
     have c2:=ih sts[k].autos (by omega) (by omega)
     generalize zea m sts[k].autos=c at*
     generalize sts[k]=s at*
     repeat' (first|refine wkt ?_|refine zqq ?_|refine wv c2 ?_|(apply TO.maxi;(iterate 3 exact rfl))|refine zab.exit ?_|exact wkc|intro hc|refine wk2 ?_ ?_|refine wk ?_|fail)
     exact zab.zat hlk trivial (by(try dsimp only);rw[hn2,zmd];exact⟨rfl,rfl,rfl,rfl,rfl,rfl,rfl,rfl,trivial⟩) rfl
    ·rw[qah]
     have hb3:=hfb sts
     generalize sts.foldl fs 0=d at*
     repeat' (first|refine wkt ?_|refine zqw ?_|(apply TO.maxi;(iterate 3 exact rfl))|refine zab.exit ?_|exact wkc|intro hc|refine wk2 ?_ ?_|refine wk ?_|fail)
     exact zab.zat hlt trivial (by(try dsimp only);rw[hn,zmd,qbT];exact⟨rfl,rfl,rfl,rfl,trivial⟩) rfl
   ·exact zwdk
theorem zmj(p:List Nod)(j:Nat):(p.take j).foldl (fun n x=>n+zbq 100000001 x.autos) 0≤countP p:=zen (fun _ _=>by omega) p _ _
theorem countP_le(p:List Nod):countP p≤(T.sl 8 (p.map nodT)).w:=by
 rw[countP_eq,w_sl,qbp]
 have h:=zdH (l:=p) (f:=fun x=>zbq 100000001 x.autos) (g:=T.w ∘ nodT) fun x hx=>by
  have h1:=count_le 100000001 x.autos
  have h2:=zdJ x
  show _≤(nodT x).w
  omega
 omega
theorem zls{p:Prog}(hw:(T.ag (zax p)).w≤100000000){n:Nod}(h:n∈p.nodes):(T.sl 1 (n.autos.map zae)).w≤100000000:=by
 rw[w_ag]at hw
 simp only[zax,zaC,qaj,qay,qao,qaI]at hw
 have h1:=zav (f:=nodT) (sz:=8) h
 have h2:=zdJ n
 omega
theorem ztJ{p:Prog}(hw:(T.ag (zax p)).w≤100000000):(T.sl 8 (p.nodes.map nodT)).w≤100000000:=by
 rw[w_ag]at hw
 simp only[zax,zaC,qaj,qay,qao,qaI]at hw
 omega
set_option maxHeartbeats 4000000 in
theorem zgq (p:Prog) (hw:(T.ag (zax p)).w≤100000000):Pure Tryz.prog 14 [.t (.ag (zax p))] (.i (countP p.nodes:Nat)):=by
 have hm2:(p.nodes.map nodT).length=p.nodes.length:=qaa _
 have hl2:=zai nodT 8 p.nodes
 have hwn:=ztJ hw
 have hno:∀n∈p.nodes,(T.sl 1 (n.autos.map zae)).w≤100000000:=fun n h=>zls hw h
 have htot:=countP_le p.nodes
 have htk:=zmj p.nodes
 unfold countP at*
 obtain⟨g,hg⟩:∃g:Nat->Nod->Nat,g=fun n x=>n+zbq 100000001 x.autos:=⟨_,rfl⟩
 rw[<-hg]at htot htk⊢
 unfold zax
 clear hw
 refine so Tryz.func14 ?_
 repeat' (first|refine wkt ?_|fail)
 refine TR.zal p.nodes.length (fun _=>True) (fun j=>[(3,.i (((p.nodes.take j).foldl g 0:Nat):Int)),(7,.t (zaC p.nodes)),(8,.i p.nodes.length),(9,.i j)]) (fun _=>[]) trivial (fun j hlt _=>?_) (fun _=>?_) ⟨rfl,rfl,by rw[<-hm2];rfl,rfl,trivial⟩ rfl
 ·have hx:=zeV hlt
  have hn:=zau g 0 hlt
  have hb1:=htk j
  have hb2:=htk (j+1)
  rw[hn]at hb2
  have hwa:=hno _ (qad hlt)
  generalize (p.nodes.take j).foldl g 0=acc at*
  have hgx:g acc p.nodes[j]=acc+zbq 100000001 p.nodes[j].autos:=by rw[hg]
  rw[hgx]at hn hb2
  have c2:=zgD 100000001 p.nodes[j].autos (by omega) (by omega)
  clear hgx hno
  generalize zbq 100000001 p.nodes[j].autos=c at*
  generalize p.nodes[j]=x at*
  unfold nodC at hx
  repeat' (first|refine wkt ?_|refine zqp ?_|refine wv c2 ?_|refine zqw ?_|refine zab.exit ?_|exact wkc|intro hc|refine wk2 ?_ ?_|refine wk ?_|fail)
  exact zab.zat hlt trivial (by(try dsimp only);rw[hn,qbT];exact⟨rfl,rfl,rfl,rfl,trivial⟩) rfl
 ·exact zwdk
theorem zs0(l:List Nod)(n:Nat)(h:n≤100000001):l.foldl (fun n x=>max n (zea 100000001 x.autos)) n≤100000001:=by
 induction l generalizing n with
 | nil=>exact h
 | cons x l ih=>
   exact ih _ (qcJ.2 ⟨h,zh3 100000001 x.autos⟩)
set_option maxHeartbeats 4000000 in
theorem zlY (p:Prog) (hw:(T.ag (zax p)).w≤100000000):Pure Tryz.prog 16 [.t (.ag (zax p))] (.i (zuO p.nodes:Nat)):=by
 have hm2:(p.nodes.map nodT).length=p.nodes.length:=qaa _
 have hl2:=zai nodT 8 p.nodes
 have hwn:=ztJ hw
 have hno:∀n∈p.nodes,(T.sl 1 (n.autos.map zae)).w≤100000000:=fun n h=>zls hw h
 have htk:=fun j=>zs0 (p.nodes.take j) 0 (by decide)
 unfold zuO at*
 obtain⟨g,hg⟩:∃g:Nat->Nod->Nat,g=fun n x=>max n (zea 100000001 x.autos):=⟨_,rfl⟩
 rw[<-hg]at htk⊢
 unfold zax
 clear hw
 refine so Tryz.func16 ?_
 repeat' (first|refine wkt ?_|fail)
 refine TR.zal p.nodes.length (fun _=>True) (fun j=>[(3,.i (((p.nodes.take j).foldl g 0:Nat):Int)),(7,.t (zaC p.nodes)),(8,.i p.nodes.length),(9,.i j)]) (fun _=>[]) trivial (fun j hlt _=>?_) (fun _=>?_) ⟨rfl,rfl,by rw[<-hm2];rfl,rfl,trivial⟩ rfl
 ·have hx:=zeV hlt
  have hn:=zau g 0 hlt
  have hb1:=htk j
  have hwa:=hno _ (qad hlt)
  generalize (p.nodes.take j).foldl g 0=acc at*
  have hgx:g acc p.nodes[j]=max acc (zea 100000001 p.nodes[j].autos):=by rw[hg]
  rw[hgx]at hn
  have hb2:=zh3 100000001 p.nodes[j].autos
  have c2:=zh2 100000001 p.nodes[j].autos (by omega) (by omega) (by omega)
  clear hgx hno
  generalize zea 100000001 p.nodes[j].autos=c at*
  generalize p.nodes[j]=x at*
  unfold nodC at hx
  repeat' (first|refine wkt ?_|refine zqp ?_|refine wv c2 ?_|(apply TO.maxi;(iterate 3 exact rfl))|refine zab.exit ?_|exact wkc|intro hc|refine wk2 ?_ ?_|refine wk ?_|fail)
  exact zab.zat hlt trivial (by(try dsimp only);rw[hn,zmd];exact⟨rfl,rfl,rfl,rfl,trivial⟩) rfl
 ·exact zwdk
structure Gr (s t:Lc):Prop where
 sub:s.1 ⊆ t.1
 pre:s.2 <+: t.2
theorem Gr.refl(s:Lc):Gr s s:=⟨fun _ h=>h,qb1 _⟩
theorem Gr.trans{s t u:Lc}(h:Gr s t)(k:Gr t u):Gr s u:=⟨fun _ hx=>k.sub (h.sub hx),h.pre.trans k.pre⟩
theorem Gr.loc(b:Str)(t:I64)(ck:List OnC)(s:Lc):Gr s (locF b t ck s).1:=⟨zcm _ _,qcq _ _⟩
theorem Gr.maps{α β:Type}{f:Lc->α->Lc×β}(hf:∀s x,Gr s (f s x).1):∀(l:List α) (s:Lc),Gr s (mapS f s l).1
 | [],s=>Gr.refl s
 | x::l,s=>(hf s x).trans (Gr.maps hf l _)
theorem zor:∀(l:List Sta) (a:List Str),a ⊆ (zce a l).1
 | [],_=>fun _ h=>h
 | _::l,a=>fun _ h=>zor l _ (zcm a _ h)
theorem Gr.dcl(s:Lc)(n:Nat)(l:List Sta):Gr s (dclF s n l).1:=by
 have h1:Gr s ((zce (frF s.1 ze9).1 l).1,s.2):=⟨fun _ h=>zor l _ (zcm _ _ h),qb1 _⟩
 exact((((h1.trans (Gr.loc ..)).trans (Gr.loc ..)).trans (Gr.maps (fun s x=>Gr.maps (fun s _=>Gr.loc ..) _ _) _ _)).trans (Gr.loc ..)).trans (Gr.loc ..)
theorem zr0(t:I64):∀(l:List Tran) (u:List Str×Bd),u.1 ⊆ (l.foldl (untF t) u).1
 | [],_=>fun _ h=>h
 | _::l,u=>fun _ h=>zr0 t l _ (zcm _ _ h)
theorem zsr(x:KS)(i:Nat)(s:Sta)(vars:List Decl):ins x.a (zaQ x.a zbM) ⊆ (zcB x i s vars).1:=fun _ h=>zr0 x.t s.unt _ (zcm _ _ (zcm _ _ h))
theorem Gr.body(x:KS)(i:Nat)(s:Sta)(vars:List Decl):Gr ((zcB x i s vars).1,x.L) ((zdN x i s vars).a,(zdN x i s vars).L):=
 ((Gr.maps (fun s _=>Gr.loc ..) x.defs _).trans (Gr.loc ..)).trans (Gr.loc ..)
structure FB (a0:List Str) (L0:List Decl) (l:List Sta) (x:KS):Prop where
 gr:Gr (a0,L0) (x.a,x.L)
 nd:(x.bodies.map Nod.name).Nodup
 new:∀m∈x.bodies.map Nod.name,m ∉ a0/\m∈x.a
 autos:x.bodies.map Nod.autos=l.map Sta.autos
theorem FB.next{a0:List Str}{L0:List Decl}{l:List Sta}{x:KS}(h:FB a0 L0 l x)(i:Nat)(s:Sta)(vars:List Decl):FB a0 L0 (l++[s]) (zdN x i s vars):=by
 have h1:=zsr x i s vars
 have h2:=Gr.body x i s vars
 have hs:x.a ⊆ (zdN x i s vars).a:=fun m hm=>h2.sub (h1 (zcm _ _ hm))
 have hn:(zcB x i s vars).2.name=zaQ x.a zbM:=rfl
 have hb:(zdN x i s vars).bodies=x.bodies++[(zcB x i s vars).2]:=rfl
 refine⟨⟨fun m hm=>hs (h.gr.sub hm),h.gr.pre.trans h2.pre⟩,?_,?_,?_⟩
 ·rw[hb,qal,qbv]
  refine⟨h.nd,by simp,fun a ha b hb=>?_⟩
  rw[qaj,qay,hn]at hb
  rw[qaG.1 hb]
  exact fun e=>zk5 x.a zbM (e ▸ (h.new a ha).2)
 ·intro m hm
  rw[hb,qal]at hm
  rcases qaF.1 hm with hm|hm
  ·exact⟨(h.new m hm).1,hs (h.new m hm).2⟩
  ·rw[qaj,qay,hn]at hm
   rw[qaG.1 hm]
   exact⟨fun h3=>zk5 x.a zbM (h.gr.sub h3),h2.sub (h1 (zq8 _ _))⟩
 ·rw[hb,qal,qal,h.autos]
  rfl
theorem FB.all{a0:List Str}{L0:List Decl}(vars:List Decl):∀(k l:List Sta) (q:Nat×KS),FB a0 L0 l q.2->FB a0 L0 (l++k) (k.foldl (fun(p:Nat×KS) s=>(p.1+1,zdN p.2 p.1 s vars)) q).2
 | [],l,q,h=>by simpa using h
 | s::k,l,q,h=>by
   rw[qaU,show l++s::k=(l++[s])++k by simp]
   exact FB.all vars k (l++[s]) _ (h.next q.1 s vars)
theorem FB.auto(s:Lc)(es:List En)(c:Nc)(Q:List T)(vars:List Decl)(au:Auto):FB s.1 s.2 au.states (zbv s es c Q vars au):=by
 have h0:FB s.1 s.2 [] (zbU s es c Q vars au):=⟨Gr.dcl s es.length au.states,qbn,(by intro m hm;cases hm),rfl⟩
 have h1:=FB.all vars au.states [] (0,zbU s es c Q vars au) h0
 rw[qa1]at h1
 unfold zbv zcR
 dsimp only
 generalize (au.states.foldl (fun(p:Nat×KS) s=>(p.1+1,zdN p.2 p.1 s vars)) (0,zbU s es c Q vars au)).2=x at*
 have h2:Gr (x.a,x.L) (locF zcd bT [] (locF zbo x.t [] (x.a,x.L)).1).1:=(Gr.loc ..).trans (Gr.loc ..)
 exact⟨h1.gr.trans h2,h1.nd,fun m hm=>⟨(h1.new m hm).1,h2.sub (h1.new m hm).2⟩,h1.autos⟩
structure FN (s:List Str×List En) (n:Nod) (l:List Auto) (r:NS):Prop where
 sub:s.1 ⊆ r.a
 es:∃E,r.es=s.2++E/\E.length=l.length
 L:n.locals <+: r.L
 Q:n.eqs <+: r.Q
 nd:(r.bs.map Nod.name).Nodup
 new:∀m∈r.bs.map Nod.name,m ∉ s.1/\m∈r.a
 autos:r.bs.map Nod.autos=(l.map fun a=>a.states.map Sta.autos).flatten
theorem FN.next{s:List Str×List En}{n:Nod}{l:List Auto}{r:NS}(h:FN s n l r)(c:Nc)(vars:List Decl)(au:Auto):FN s n (l++[au]) (zf0 c vars r au):=by
 have h1:=FB.auto (r.a,r.L) r.es c (r.Q.map equT) vars au
 have hb:(zf0 c vars r au).bs=r.bs++(zbv (r.a,r.L) r.es c (r.Q.map equT) vars au).bodies:=rfl
 refine⟨fun m hm=>h1.gr.sub (h.sub hm),?_,h.L.trans h1.gr.pre,h.Q.trans (qcq _ _),?_,?_,?_⟩
 ·obtain⟨E,e1,e2⟩:=h.es
  refine⟨E++[(dclF (r.a,r.L) r.es.length au.states).2.1],?_,by simp[e2]⟩
  rw[show(zf0 c vars r au).es=r.es++[(dclF (r.a,r.L) r.es.length au.states).2.1] from rfl,e1,qa8]
 ·rw[hb,qal,qbv]
  exact⟨h.nd,h1.nd,fun a ha b hb e=>(h1.new b hb).1 (e ▸ (h.new a ha).2)⟩
 ·intro m hm
  rw[hb,qal]at hm
  rcases qaF.1 hm with hm|hm
  ·exact⟨(h.new m hm).1,h1.gr.sub (h.new m hm).2⟩
  ·exact⟨fun h3=>(h1.new m hm).1 (h.sub h3),(h1.new m hm).2⟩
 ·rw[hb,qal,h.autos,h1.autos,qal,qbz]
  simp
theorem FN.all(s:List Str×List En)(n:Nod)(c:Nc)(vars:List Decl):∀(k l:List Auto) (r:NS),FN s n l r->FN s n (l++k) (k.foldl (zf0 c vars) r)
 | [],l,r,h=>by simpa using h
 | a::k,l,r,h=>by
   rw[qaU,show l++a::k=(l++[a])++k by simp]
   exact FN.all s n c vars k (l++[a]) _ (h.next c vars a)
abbrev nsF (s:List Str×List En)(n:Nod):NS:=n.autos.foldl (zf0 (ncOf n) (zaB n)) ⟨s.1,s.2,n.locals,n.eqs,[]⟩
theorem zvP(s:List Str×List En)(n:Nod):FN s n n.autos (nsF s n):=by
 have h:=FN.all s n (ncOf n) (zaB n) n.autos [] ⟨s.1,s.2,n.locals,n.eqs,[]⟩ ⟨fun _ h=>h,⟨[],by simp,rfl⟩,qb1 _,qb1 _,qbn,(by intro m hm;cases hm),rfl⟩
 rw[qa1]at h
 exact h
abbrev bdF (k:Nat)(q:(List Str×List En)×List Nod)(l:List Nod):(List Str×List En)×List Nod:=l.foldl (fun(p:(List Str×List En)×List Nod) b=>((zaG k p.1 b).1,p.2++(zaG k p.1 b).2)) q
theorem zpb(k:Nat)(s:List Str×List En)(n:Nod):zaG (k+1) s n=((bdF k (((nsF s n).a,(nsF s n).es),[]) (nsF s n).bs).1,(bdF k (((nsF s n).a,(nsF s n).es),[]) (nsF s n).bs).2++[{ n with locals:=(nsF s n).L,eqs:=(nsF s n).Q,autos:=[] }]):=rfl
def Dp:Nat->List Auto->Prop
 | 0,l=>l=[]
 | k+1,l=>∀a∈l,∀s∈a.states,Dp k s.autos
def cntD:Nat->List Auto->Nat
 | 0,_=>0
 | k+1,l=>(l.map fun a=>1+(a.states.map fun s=>cntD k s.autos).sum).sum
def staD:Nat->List Auto->Nat
 | 0,_=>0
 | k+1,l=>(l.map fun a=>(a.states.map fun s=>1+staD k s.autos).sum).sum
theorem znf(a b:List Nat):(a++b).sum=a.sum+b.sum:=qbB ..
theorem zjS{α:Type}(f:α->Nat):∀l:List (List α),(l.flatten.map f).sum=(l.map fun x=>(x.map f).sum).sum
 | []=>rfl
 | x::l=>by rw[qa9,qal,znf,zjS f l,qaj,qao]
theorem zhf{α:Type}(f:α->Nat):∀l:List α,(l.map fun x=>1+f x).sum=l.length+(l.map f).sum
 | []=>rfl
 | x::l=>by rw[qaj,qao,zhf f l,qaj,qao,qam];omega
theorem zpV(k:Nat)(l:List Auto):cntD (k+1) l=l.length+(((l.map fun a=>a.states.map Sta.autos).flatten).map (cntD k)).sum:=by
 rw[cntD,zhf,zjS,qbp]
 simp[qbY,qbp]
theorem zrJ(k:Nat)(l:List Auto):staD (k+1) l=(((l.map fun a=>a.states.map Sta.autos).flatten).map fun x=>1+staD k x).sum:=by
 rw[staD,zjS,qbp]
 simp[qbY,qbp]
structure NR (k:Nat) (s:List Str×List En) (n:Nod) (o:(List Str×List En)×List Nod):Prop where
 sub:s.1 ⊆ o.1.1
 es:∃E,o.1.2=s.2++E/\E.length=cntD k n.autos
 nodes:∃B L Q,o.2=B++[{ n with locals:=n.locals++L,eqs:=n.eqs++Q,autos:=[] }]/\B.length=staD k n.autos/\(∀m∈B.map Nod.name,m ∉ s.1/\m∈o.1.1)/\(B.map Nod.name).Nodup
structure BR (k:Nat) (a0 ra:List Str) (es:List En) (l:List Nod) (q:(List Str×List En)×List Nod):Prop where
 sub:ra ⊆ q.1.1
 es:∃E,q.1.2=es++E/\E.length=((l.map Nod.autos).map (cntD k)).sum
 len:q.2.length=((l.map Nod.autos).map fun x=>1+staD k x).sum
 nd:(q.2.map Nod.name).Nodup
 new:∀m∈q.2.map Nod.name,m ∉ a0/\m∈q.1.1/\(m∈l.map Nod.name\/m ∉ ra)
theorem BR.next{k:Nat}{a0 ra:List Str}{es:List En}{l:List Nod}{q:(List Str×List En)×List Nod}(h:BR k a0 ra es l q)(h0:a0 ⊆ ra)(b:Nod)(hb:b.name ∉ l.map Nod.name)(hn:b.name ∉ a0/\b.name∈ra)(hr:NR k q.1 b (zaG k q.1 b)):
  BR k a0 ra es (l++[b]) ((zaG k q.1 b).1,q.2++(zaG k q.1 b).2):=by
 obtain⟨r1,⟨E2,r2,r3⟩,B,L,Q,r4,r5,r6,r7⟩:=hr
 obtain⟨E1,e1,e2⟩:=h.es
 have hnm:(zaG k q.1 b).2.map Nod.name=B.map Nod.name++[b.name]:=by rw[r4,qal];rfl
 refine⟨fun m hm=>r1 (h.sub hm),⟨E1++E2,?_,?_⟩,?_,?_,?_⟩
 ·dsimp only
  rw[r2,e1,qa8]
 ·rw[qae,e2,r3,qal,qal,znf]
  rfl
 ·dsimp only
  rw[qae,h.len,r4,qae,r5,qal,qal,znf]
  show _+(staD k b.autos+1)=_+(1+staD k b.autos+0)
  omega
 ·dsimp only
  rw[qal,hnm,qbv]
  refine⟨h.nd,?_,fun x hx y hy e=>?_⟩
  ·rw[qbv]
   refine⟨r7,by simp,fun x hx y hy e=>?_⟩
   rw[qaG.1 hy]at e
   subst e
   exact(r6 _ hx).1 (h.sub hn.2)
  ·subst e
   obtain⟨g1,g2,g3⟩:=h.new x hx
   rcases qaF.1 hy with hy|hy
   ·exact(r6 x hy).1 g2
   ·rw[qaG.1 hy]at g3
    rcases g3 with g3|g3
    ·exact hb g3
    ·exact g3 hn.2
 ·intro m hm
  dsimp only at hm⊢
  rw[qal,hnm]at hm
  rcases qaF.1 hm with hm|hm
  ·obtain⟨g1,g2,g3⟩:=h.new m hm
   refine⟨g1,r1 g2,?_⟩
   rcases g3 with g3|g3
   ·exact .inl (by rw[qal];exact qby _ g3)
   ·exact .inr g3
  ·rcases qaF.1 hm with hm|hm
   ·exact⟨fun h3=>(r6 m hm).1 (h.sub (h0 h3)),(r6 m hm).2,.inr fun h3=>(r6 m hm).1 (h.sub h3)⟩
   ·rw[qaG.1 hm]
    exact⟨hn.1,r1 (h.sub hn.2),.inl (by rw[qal];simp)⟩
theorem BR.all{k:Nat}{a0 ra:List Str}{es:List En}(h0:a0 ⊆ ra)(hN:∀s n,Dp k n.autos->NR k s n (zaG k s n)):∀(m l:List Nod) (q:(List Str×List En)×List Nod),BR k a0 ra es l q->((l++m).map Nod.name).Nodup->(∀b∈m,b.name ∉ a0/\b.name∈ra)->(∀b∈m,Dp k b.autos)->BR k a0 ra es (l++m) (bdF k q m)
 | [],l,q,h,_,_,_=>by simpa using h
 | b::m,l,q,h,hd,hn,hp=>by
   have h1:=h.next h0 b (by
    rw[qal,qbv]at hd
    exact fun hb=>hd.2.2 _ hb _ (by simp) rfl) (hn b (qas ..)) (hN _ b (hp b (qas ..)))
   have h2:=BR.all h0 hN m (l++[b]) _ h1 (by simpa using hd) (fun c hc=>hn c (qar _ hc)) fun c hc=>hp c (qar _ hc)
   rw[show l++b::m=l++[b]++m by simp]
   exact h2
theorem zj8:∀(k:Nat) (s:List Str×List En) (n:Nod),Dp k n.autos->NR k s n (zaG k s n)
 | 0,s,n,h=>by
   refine⟨fun _ h=>h,⟨[],by simp[zaG],rfl⟩,[],[],[],?_,rfl,(by intro m hm;cases hm),qbn⟩
   simp[zaG]
 | k+1,s,n,h=>by
   have hf:=zvP s n
   have hq:∀b∈(nsF s n).bs,Dp k b.autos:=fun b hb=>by
    have h1:b.autos∈(nsF s n).bs.map Nod.autos:=qbO hb
    rw[hf.autos]at h1
    obtain⟨l,hl,hbl⟩:=qcd.1 h1
    obtain⟨a,ha,rfl⟩:=qa4.1 hl
    obtain⟨x,hx,hxe⟩:=qa4.1 hbl
    rw[<-hxe]
    exact h a ha x hx
   have h1:=BR.all (k:=k) (a0:=s.1) (ra:=(nsF s n).a) (es:=(nsF s n).es) hf.sub (zj8 k) (nsF s n).bs [] (((nsF s n).a,(nsF s n).es),[]) ⟨fun _ h=>h,⟨[],by simp,rfl⟩,rfl,qbn,(by intro m hm;cases hm)⟩ (by simpa using hf.nd) (fun b hb=>hf.new _ (qbO hb)) hq
   rw[qa1]at h1
   rw[zpb]
   obtain⟨E1,e1,e2⟩:=hf.es
   obtain⟨E2,e3,e4⟩:=h1.es
   obtain⟨L,hL⟩:=hf.L
   obtain⟨Q,hQ⟩:=hf.Q
   refine⟨fun m hm=>h1.sub (hf.sub hm),⟨E1++E2,?_,?_⟩,_,L,Q,?_,?_,fun m hm=>?_,h1.nd⟩
   ·dsimp only
    rw[e3,e1,qa8]
   ·rw[qae,e2,e4,hf.autos,zpV]
   ·rw[hL,hQ]
   ·rw[h1.len,hf.autos,zrJ]
   ·obtain⟨g1,g2,_⟩:=h1.new m hm
    exact⟨g1,g2⟩
end Go.Proofs.YtpnnpgbaiobbjaaGreatDoor
