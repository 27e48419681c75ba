import Derived.Lib.SliceRun
import Derived.Test.YtpnnpgbaiobbjaaGreatDoorBk16
set_option linter.all false
namespace Go.Proofs.YtpnnpgbaiobbjaaGreatDoor
open Go Go.TL
attribute [local irreducible] TR TO Then zap RetK Sound zab Kf GG za3
theorem zef{l:List Auto}{x:Auto}{s:Sta}(hx:x∈l)(hs:s∈x.states):s.name.length+(zad s.locals).w+(T.sl 7 (s.eqs.map equT)).w+(T.sl 1 (s.autos.map zae)).w+(T.sl 8 (s.unl.map zah)).w+(T.sl 8 (s.unt.map zah)).w<(T.sl 1 (l.map zae)).w:=by
 have h1:=zau (f:=zae) (sz:=1) hx
 have h2:=zbH x
 have h3:=zau (f:=staT) (sz:=6) hs
 rw[za8,w_ag]at h3
 simp only[qaj,qaw,qan,qaG,w_s]at h3
 have h4:(zad s.locals).w=(T.sl 3 (s.locals.map zaa)).w:=rfl
 omega
theorem zgU{l:List Equ}{q:Equ}(hq:q∈l):(∀s∈q.left,s.length<(T.sl 7 (l.map equT)).w)/\(exT q.right).w<(T.sl 7 (l.map equT)).w/\q.left.length<(T.sl 7 (l.map equT)).w:=by
 have h1:=zau (f:=equT) (sz:=7) hq
 rw[show equT q= .ag (.sl 1 (q.left.map T.s)::exC q.right) from rfl,w_ag,qaj,qan]at h1
 refine⟨fun s hs=>?_,?_,?_⟩
 ·have h2:=zau (f:=T.s) (sz:=1) hs
  rw[w_s]at h2
  omega
 ·rw[zay,w_ag];omega
 ·have h2:=zai T.s 1 q.left
  omega
theorem zgw{l:List Tran}{t:Tran}(ht:t∈l):(exT t.cond).w<(T.sl 8 (l.map zah)).w:=by
 have h1:=zau (f:=zah) (sz:=8) ht
 rw[show zah t= .ag [T.n t.cond.kind,T.n t.cond.op,T.n t.cond.t,T.n t.cond.v,.s t.cond.name,.sl 6 (t.cond.args.map exT),T.n t.to,.b t.resume] from rfl,w_ag]at h1
 simp only[qaj,qaw,qan,qaG]at h1
 rw[zay,w_ag]
 exact zwfq
theorem zfQ{qs:List Equ}(hq:(T.sl 7 (qs.map equT)).w≤100000000):∀q∈qs,∀s∈q.left,zdc s:=fun q hh s hs=>by
 have:=(zgU hh).1 s hs
 show _≤_
 omega
theorem zio:∀(m:Nat) (a:List Str) (qs:List Equ) (l:List Auto),zaw a->(T.sl 7 (qs.map equT)).w≤100000000->(T.sl 1 (l.map zae)).w≤100000000->zaw (zaT m a qs l)
 | 0,a,_,_,h,_,_=>h
 | m+1,a,qs,l,h,hq,hl=>by
   unfold zaT
   refine zaJ (zvQ h (zfQ hq)) fun a x hx ha=>zaJ ha fun a s hs ha=>?_
   exact zwdg
theorem zhs:∀(m:Nat) (a:List Str) (qs:List Equ) (l:List Auto),zaw a->(T.sl 7 (qs.map equT)).w≤100000000->(T.sl 1 (l.map zae)).w≤100000000->zaw (zbI m a qs l)
 | 0,a,_,_,h,_,_=>h
 | m+1,a,qs,l,h,hq,hl=>by
   unfold zbI
   refine zaJ (zaJ h fun a q hh ha=>zgr ha (za1 (by have:=(zgU hh).2.1;omega))) fun a x hx ha=>zaJ ha fun a s hs ha=>?_
   have h1:=zef hx hs
   exact zwbw
def zbX:Nat->List Auto->Nat
 | 0,_=>0
 | m+1,l=>l.foldl (fun n a=>a.states.foldl (fun n s=>n+zbX m s.autos) n) l.length
def zei:Nat->List Auto->Nat
 | 0,_=>0
 | m+1,l=>l.foldl (fun n a=>max n (a.states.foldl (fun d s=>max d (zei m s.autos)) 0+1)) 0
theorem zmW{α:Type}{f:Nat->α->Nat}{g:α->Nat}:∀ {l:List α} (n:Nat),(∀x∈l,∀n,f n x≤n+g x)->l.foldl f n≤n+(l.map g).sum
 | [],n,_=>by simp
 | x::l,n,h=>by
   have h1:=h x (qas ..) n
   have h2:=zmW (l:=l) (f n x) fun y hy=>h y (qar _ hy)
   simp only[qaT,qaj,qan]
   omega
theorem zmV{α:Type}{f:Nat->α->Nat}(h:∀x n,n≤f n x):∀(l:List α) (n:Nat),n≤l.foldl f n
 | [],n=>qag _
 | x::l,n=>qaC (h x n) (zmV h l (f n x))
theorem zhX{α:Type}{f:Nat->α->Nat}(h:∀x n,n≤f n x)(l:List α)(n j:Nat):(l.take j).foldl f n≤l.foldl f n:=by
 conv=>rhs;rw[<-qaW j l,qa5]
 exact zmV h _ _
theorem zgv{α:Type}{f g:α->Nat}:∀ {l:List α},(∀x∈l,f x≤g x)->(l.map f).sum≤(l.map g).sum
 | [],_=>by simp
 | x::l,h=>by
   have h1:=h x (qas ..)
   have h2:=zgv (l:=l) fun y hy=>h y (qar _ hy)
   simp only[qaj,qan]
   omega
theorem zoF{α:Type}{f:α->Nat}:∀ {l:List α},(l.map fun x=>f x+1).sum=(l.map f).sum+l.length
 | []=>by simp
 | x::l=>by
   have h2:=zoF (f:=f) (l:=l)
   simp only[qaj,qan,qam]
   omega
theorem count_le:∀(m:Nat) (l:List Auto),zbX m l≤(T.sl 1 (l.map zae)).w
 | 0,l=>qaK _
 | m+1,l=>by
   unfold zbX
   have h1:∀a∈l,∀n,a.states.foldl (fun n s=>n+zbX m s.autos) n≤n+(a.states.map fun s=>(staT s).w).sum:=fun a _ n=>zmW n fun s _ n=>by
    have h2:=count_le m s.autos
    have h3:=zdQ s
    omega
   refine qaC (zmW (g:=fun a=>(a.states.map fun s=>(staT s).w).sum) _ h1) ?_
   have h4:∀a∈l,(a.states.map fun s=>(staT s).w).sum+1≤(zae a).w:=fun a _=>by
    have:=zbH a
    rw[w_sl,qbA]at this
    have e:(T.w ∘ staT)=fun s=>(staT s).w:=rfl
    rw[e]at this
    omega
   have h5:=zgv h4
   rw[zoF]at h5
   rw[w_sl,qbA]
   have e:(T.w ∘ zae)=fun s=>(zae s).w:=rfl
   rw[e]
   omega
theorem zp6(m:Nat)(a:Auto)(n:Nat):n≤a.states.foldl (fun n s=>n+zbX m s.autos) n:=zmV (fun _ _=>by omega) _ _
theorem zij:∀(m:Nat) (l:List Auto),zei m l≤m
 | 0,l=>qag _
 | m+1,l=>by
   unfold zei
   have hS:∀(L:List Sta) (d:Nat),d≤m->L.foldl (fun d s=>max d (zei m s.autos)) d≤m:=by
    intro L
    induction L with
    | nil=>intro d h;exact h
    | cons s L ih=>
      intro d h
      exact ih _ (qcH.2 ⟨h,zij m s.autos⟩)
   have hA:∀(L:List Auto) (n:Nat),n≤m+1->L.foldl (fun n a=>max n (a.states.foldl (fun d s=>max d (zei m s.autos)) 0+1)) n≤m+1:=by
    intro L
    induction L with
    | nil=>intro d h;exact h
    | cons a L ih=>
      intro n h
      exact ih _ (qcH.2 ⟨h,Nat.succ_le_succ (hS a.states 0 (qaK _))⟩)
   exact hA l 0 (qaK _)
def countP(p:List Nod):Nat:=p.foldl (fun n x=>n+zbX 100000001 x.autos) 0
def zuJ(p:List Nod):Nat:=p.foldl (fun n x=>max n (zei 100000001 x.autos)) 0
theorem countP_eq(p:List Nod):countP p=(p.map fun x=>zbX 100000001 x.autos).sum:=by
 have:∀(l:List Nod) (n:Nat),l.foldl (fun n x=>n+zbX 100000001 x.autos) n=n+(l.map fun x=>zbX 100000001 x.autos).sum:=by
  intro l
  induction l with
  | nil=>intro n;simp
  | cons x l ih=>intro n;simp only[qaT,qaj,qan];rw[ih];omega
 unfold countP
 rw[this];omega
set_option maxHeartbeats 4000000 in
theorem zgR:∀(m:Nat) (l:List Auto),(T.sl 1 (l.map zae)).w≤100000000->(T.sl 1 (l.map zae)).w≤m->Pure Tryz.prog 40 [.t (.sl 1 (l.map zae))] (.i (zbX m l:Nat))
 | 0,l,_,hm=>by have:=zgA (T.sl 1 (l.map zae));omega
 | m+1,l,hl,hm=>by
   have ih:=zgR m
   have hml:(l.map zae).length=l.length:=qaa _
   have hlb:=zai zae 1 l
   have htot:=count_le (m+1) l
   unfold zbX at htot⊢
   obtain⟨fs,hfs⟩:∃fs:Nat->Sta->Nat,fs=fun n s=>n+zbX m s.autos:=⟨_,rfl⟩
   obtain⟨g,hg⟩:∃g:Nat->Auto->Nat,g=fun n x=>x.states.foldl fs n:=⟨_,rfl⟩
   rw[show(fun(n:Nat) (a:Auto)=>a.states.foldl (fun n s=>n+zbX m s.autos) n)=g by rw[hg,hfs]]at htot⊢
   have hge:∀a n,n≤g n a:=fun a n=>by rw[hg,hfs];exact zp6 m a n
   refine so Tryz.func40 ?_
   repeat' (first|refine wkt ?_|fail)
   refine TR.zal l.length (fun _=>True) (fun j=>[(3,.i (((l.take j).foldl g l.length:Nat):Int)),(10,.t (.sl 1 (l.map zae))),(11,.i l.length),(12,.i j)]) (fun _=>[]) trivial (fun j hlt _=>?_) (fun _=>?_) ⟨by rw[<-hml];rfl,rfl,by rw[<-hml];rfl,rfl,trivial⟩ rfl
   ·have hx:=zao zae hlt
    rw[zbQ]at hx
    have hn:=zam g l.length hlt
    have hup:(l.take (j+1)).foldl g l.length≤l.foldl g l.length:=zhX hge l _ _
    have hsi:=fun s hs=>zef (qad hlt) (s:=s) hs
    have hsb:l[j].states.length≤100000000:=by
     exact zwdk
    rw[hn]at hup
    generalize (l.take j).foldl g l.length=acc at*
    have hgx:g acc l[j]=l[j].states.foldl fs acc:=by rw[hg]
    rw[hgx]at hn hup
    clear hgx hge
    generalize l[j]=x at*
    obtain⟨sts⟩:=x
    simp only[Auto.states]at hx hn hup hsi hsb
    have hmc:(sts.map staT).length=sts.length:=qaa _
    repeat' (first|refine wkt ?_|refine zqq ?_|refine zab.exit ?_|exact wkc|intro hc|refine wk2 ?_ ?_|fail)
    refine TR.zal sts.length (fun _=>True) (fun k=>[(3,.i (((sts.take k).foldl fs acc:Nat):Int)),(10,.t (.sl 1 (l.map zae))),(11,.i l.length),(12,.i j),(17,.t (.sl 6 (sts.map staT))),(18,.i sts.length),(19,.i k)]) (fun _=>[]) trivial (fun k hlk _=>?_) (fun _=>?_) ⟨rfl,rfl,rfl,rfl,rfl,by rw[<-hmc];rfl,rfl,trivial⟩ rfl
    ·have hy:=zao staT hlk
     rw[za8]at hy
     have hn2:=zam fs acc hlk
     have hup2:(sts.take (k+1)).foldl fs acc≤sts.foldl fs acc:=zhX (fun s n=>by rw[hfs];exact qbW _ _) sts _ _
     rw[hn2]at hup2
     have hw:=hsi _ (qad hlk)
     generalize (sts.take k).foldl fs acc=acc2 at*
     have hfx:fs acc2 sts[k]=acc2+zbX m sts[k].autos:=by rw[hfs]
     rw[hfx]at hn2 hup2
     have c2:=ih sts[k].autos (by omega) (by omega)
     generalize zbX m sts[k].autos=c at*
     generalize sts[k]=s at*
     repeat' (first|refine wkt ?_|refine zqr ?_|refine wv c2 ?_|refine zqx ?_|refine zab.exit ?_|exact wkc|intro hc|refine wk2 ?_ ?_|refine wk ?_|fail)
     exact zab.zaz hlk trivial (by(try dsimp only);rw[hn2,qcB];exact⟨rfl,rfl,rfl,rfl,rfl,rfl,rfl,trivial⟩) rfl
    ·exact zwbn
   ·exact zwdz
theorem zmt(a b:Nat):((max a b:Nat):Int)=max (a:Int) (b:Int):=by omega
theorem zot(m:Nat)(l:List Sta)(n:Nat)(h:n≤m):l.foldl (fun d s=>max d (zei m s.autos)) n≤m:=by
 induction l generalizing n with
 | nil=>exact h
 | cons s l ih=>
   exact ih _ (qcH.2 ⟨h,zij m s.autos⟩)
theorem zs1(m:Nat)(l:List Auto)(n:Nat)(h:n≤m+1):l.foldl (fun n a=>max n (a.states.foldl (fun d s=>max d (zei m s.autos)) 0+1)) n≤m+1:=by
 induction l generalizing n with
 | nil=>exact h
 | cons a l ih=>
   exact ih _ (qcH.2 ⟨h,Nat.succ_le_succ (zot m a.states 0 (qaK _))⟩)
set_option maxHeartbeats 4000000 in
theorem zii:∀(m:Nat) (l:List Auto),m≤100000001->(T.sl 1 (l.map zae)).w≤100000000->(T.sl 1 (l.map zae)).w≤m->Pure Tryz.prog 42 [.t (.sl 1 (l.map zae))] (.i (zei m l:Nat))
 | 0,l,_,_,hm=>by have:=zgA (T.sl 1 (l.map zae));omega
 | m+1,l,hM,hl,hm=>by
   have ih:=fun l=>zii m l (by omega)
   have hml:(l.map zae).length=l.length:=qaa _
   have hlb:=zai zae 1 l
   unfold zei
   obtain⟨fs,hfs⟩:∃fs:Nat->Sta->Nat,fs=fun d s=>max d (zei m s.autos):=⟨_,rfl⟩
   obtain⟨g,hg⟩:∃g:Nat->Auto->Nat,g=fun n x=>max n (x.states.foldl fs 0+1):=⟨_,rfl⟩
   have hgb:∀j,(l.take j).foldl g 0≤m+1:=fun j=>by rw[hg,hfs];exact zs1 m _ 0 (qaK _)
   have hfb:∀L:List Sta,L.foldl fs 0≤m:=fun L=>by rw[hfs];exact zot m L 0 (qaK _)
   rw[show(fun(n:Nat) (a:Auto)=>max n (a.states.foldl (fun d s=>max d (zei m s.autos)) 0+1))=g by rw[hg,hfs]]
   refine so Tryz.func42 ?_
   repeat' (first|refine wkt ?_|fail)
   refine TR.zal l.length (fun _=>True) (fun j=>[(3,.i (((l.take j).foldl g 0:Nat):Int)),(9,.t (.sl 1 (l.map zae))),(10,.i l.length),(11,.i j)]) (fun _=>[]) trivial (fun j hlt _=>?_) (fun _=>?_) ⟨rfl,rfl,by rw[<-hml];rfl,rfl,trivial⟩ rfl
   ·have hx:=zao zae hlt
    rw[zbQ]at hx
    have hn:=zam g 0 hlt
    have hb1:=hgb j
    have hsi:=fun s hs=>zef (qad hlt) (s:=s) hs
    have hsb:l[j].states.length≤100000000:=by
     exact zwdk
    generalize (l.take j).foldl g 0=acc at*
    have hgx:g acc l[j]=max acc (l[j].states.foldl fs 0+1):=by rw[hg]
    rw[hgx]at hn
    clear hgx hgb
    generalize l[j]=x at*
    obtain⟨sts⟩:=x
    simp only[Auto.states]at hx hn hsi hsb
    have hmc:(sts.map staT).length=sts.length:=qaa _
    repeat' (first|refine wkt ?_|refine zqq ?_|refine zab.exit ?_|exact wkc|intro hc|refine wk2 ?_ ?_|fail)
    refine TR.zal sts.length (fun _=>True) (fun k=>[(3,.i (acc:Int)),(6,.i (((sts.take k).foldl fs 0:Nat):Int)),(9,.t (.sl 1 (l.map zae))),(10,.i l.length),(11,.i j),(16,.t (.sl 6 (sts.map staT))),(17,.i sts.length),(18,.i k)]) (fun _=>[]) trivial (fun k hlk _=>?_) (fun _=>?_) ⟨rfl,rfl,rfl,rfl,rfl,rfl,by rw[<-hmc];rfl,rfl,trivial⟩ rfl
    ·have hy:=zao staT hlk
     rw[za8]at hy
     have hn2:=zam fs 0 hlk
     have hb2:=hfb (sts.take k)
     have hw:=hsi _ (qad hlk)
     generalize (sts.take k).foldl fs 0=acc2 at*
     have hfx:fs acc2 sts[k]=max acc2 (zei m sts[k].autos):=by rw[hfs]
     rw[hfx]at hn2
     have hc0:=zij m sts[k].autos
     have c2:=ih sts[k].autos (by omega) (by omega)
     generalize zei m sts[k].autos=c at*
     generalize sts[k]=s at*
     repeat' (first|refine wkt ?_|refine zqr ?_|refine wv c2 ?_|(apply TO.maxi;(iterate 3 exact rfl))|refine zab.exit ?_|exact wkc|intro hc|refine wk2 ?_ ?_|refine wk ?_|fail)
     exact zab.zaz hlk trivial (by(try dsimp only);rw[hn2,zmt];exact⟨rfl,rfl,rfl,rfl,rfl,rfl,rfl,rfl,trivial⟩) rfl
    ·rw[qae]
     have hb3:=hfb sts
     generalize sts.foldl fs 0=d at*
     repeat' (first|refine wkt ?_|refine zqx ?_|(apply TO.maxi;(iterate 3 exact rfl))|refine zab.exit ?_|exact wkc|intro hc|refine wk2 ?_ ?_|refine wk ?_|fail)
     exact zab.zaz hlt trivial (by(try dsimp only);rw[hn,zmt,qcB];exact⟨rfl,rfl,rfl,rfl,trivial⟩) rfl
   ·exact zwdz
theorem zmz(p:List Nod)(j:Nat):(p.take j).foldl (fun n x=>n+zbX 100000001 x.autos) 0≤countP p:=zhX (fun _ _=>by omega) p _ _
theorem countP_le(p:List Nod):countP p≤(T.sl 8 (p.map nodT)).w:=by
 rw[countP_eq,w_sl,qbA]
 have h:=zgv (l:=p) (f:=fun x=>zbX 100000001 x.autos) (g:=T.w ∘ nodT) fun x hx=>by
  have h1:=count_le 100000001 x.autos
  have h2:=zda x
  show _≤(nodT x).w
  omega
 omega
theorem zlI{p:Prog}(hw:(T.ag (zax p)).w≤100000000){n:Nod}(h:n∈p.nodes):(T.sl 1 (n.autos.map zae)).w≤100000000:=by
 rw[w_ag]at hw
 simp only[zax,zaA,qaj,qaw,qan,qaG]at hw
 have h1:=zau (f:=nodT) (sz:=8) h
 have h2:=zda n
 omega
theorem ztI{p:Prog}(hw:(T.ag (zax p)).w≤100000000):(T.sl 8 (p.nodes.map nodT)).w≤100000000:=by
 rw[w_ag]at hw
 simp only[zax,zaA,qaj,qaw,qan,qaG]at hw
 omega
set_option maxHeartbeats 4000000 in
theorem zgE (p:Prog) (hw:(T.ag (zax p)).w≤100000000):Pure Tryz.prog 14 [.t (.ag (zax p))] (.i (countP p.nodes:Nat)):=by
 have hm2:(p.nodes.map nodT).length=p.nodes.length:=qaa _
 have hl2:=zai nodT 8 p.nodes
 have hwn:=ztI hw
 have hno:∀n∈p.nodes,(T.sl 1 (n.autos.map zae)).w≤100000000:=fun n h=>zlI hw h
 have htot:=countP_le p.nodes
 have htk:=zmz p.nodes
 unfold countP at*
 obtain⟨g,hg⟩:∃g:Nat->Nod->Nat,g=fun n x=>n+zbX 100000001 x.autos:=⟨_,rfl⟩
 rw[<-hg]at htot htk⊢
 unfold zax
 clear hw
 refine so Tryz.func14 ?_
 repeat' (first|refine wkt ?_|fail)
 refine TR.zal p.nodes.length (fun _=>True) (fun j=>[(3,.i (((p.nodes.take j).foldl g 0:Nat):Int)),(7,.t (zaA p.nodes)),(8,.i p.nodes.length),(9,.i j)]) (fun _=>[]) trivial (fun j hlt _=>?_) (fun _=>?_) ⟨rfl,rfl,by rw[<-hm2];rfl,rfl,trivial⟩ rfl
 ·have hx:=zfo hlt
  have hn:=zam g 0 hlt
  have hb1:=htk j
  have hb2:=htk (j+1)
  rw[hn]at hb2
  have hwa:=hno _ (qad hlt)
  generalize (p.nodes.take j).foldl g 0=acc at*
  have hgx:g acc p.nodes[j]=acc+zbX 100000001 p.nodes[j].autos:=by rw[hg]
  rw[hgx]at hn hb2
  have c2:=zgR 100000001 p.nodes[j].autos (by omega) (by omega)
  clear hgx hno
  generalize zbX 100000001 p.nodes[j].autos=c at*
  generalize p.nodes[j]=x at*
  unfold nodC at hx
  repeat' (first|refine wkt ?_|refine zqq ?_|refine wv c2 ?_|refine zqx ?_|refine zab.exit ?_|exact wkc|intro hc|refine wk2 ?_ ?_|refine wk ?_|fail)
  exact zab.zaz hlt trivial (by(try dsimp only);rw[hn,qcB];exact⟨rfl,rfl,rfl,rfl,trivial⟩) rfl
 ·exact zwdz
theorem zs2(l:List Nod)(n:Nat)(h:n≤100000001):l.foldl (fun n x=>max n (zei 100000001 x.autos)) n≤100000001:=by
 induction l generalizing n with
 | nil=>exact h
 | cons x l ih=>
   exact ih _ (qcH.2 ⟨h,zij 100000001 x.autos⟩)
set_option maxHeartbeats 4000000 in
theorem zme (p:Prog) (hw:(T.ag (zax p)).w≤100000000):Pure Tryz.prog 16 [.t (.ag (zax p))] (.i (zuJ p.nodes:Nat)):=by
 have hm2:(p.nodes.map nodT).length=p.nodes.length:=qaa _
 have hl2:=zai nodT 8 p.nodes
 have hwn:=ztI hw
 have hno:∀n∈p.nodes,(T.sl 1 (n.autos.map zae)).w≤100000000:=fun n h=>zlI hw h
 have htk:=fun j=>zs2 (p.nodes.take j) 0 (by decide)
 unfold zuJ at*
 obtain⟨g,hg⟩:∃g:Nat->Nod->Nat,g=fun n x=>max n (zei 100000001 x.autos):=⟨_,rfl⟩
 rw[<-hg]at htk⊢
 unfold zax
 clear hw
 refine so Tryz.func16 ?_
 repeat' (first|refine wkt ?_|fail)
 refine TR.zal p.nodes.length (fun _=>True) (fun j=>[(3,.i (((p.nodes.take j).foldl g 0:Nat):Int)),(7,.t (zaA p.nodes)),(8,.i p.nodes.length),(9,.i j)]) (fun _=>[]) trivial (fun j hlt _=>?_) (fun _=>?_) ⟨rfl,rfl,by rw[<-hm2];rfl,rfl,trivial⟩ rfl
 ·have hx:=zfo hlt
  have hn:=zam g 0 hlt
  have hb1:=htk j
  have hwa:=hno _ (qad hlt)
  generalize (p.nodes.take j).foldl g 0=acc at*
  have hgx:g acc p.nodes[j]=max acc (zei 100000001 p.nodes[j].autos):=by rw[hg]
  rw[hgx]at hn
  have hb2:=zij 100000001 p.nodes[j].autos
  have c2:=zii 100000001 p.nodes[j].autos (by omega) (by omega) (by omega)
  clear hgx hno
  generalize zei 100000001 p.nodes[j].autos=c at*
  generalize p.nodes[j]=x at*
  unfold nodC at hx
  repeat' (first|refine wkt ?_|refine zqq ?_|refine wv c2 ?_|(apply TO.maxi;(iterate 3 exact rfl))|refine zab.exit ?_|exact wkc|intro hc|refine wk2 ?_ ?_|refine wk ?_|fail)
  exact zab.zaz hlt trivial (by(try dsimp only);rw[hn,zmt];exact⟨rfl,rfl,rfl,rfl,trivial⟩) rfl
 ·exact zwdz
end Go.Proofs.YtpnnpgbaiobbjaaGreatDoor
namespace Go.TL
open Go
section rules
variable {P:Program}{all:Array Oper}
def allH(Q:Heap->Prop):List Heap->Prop
 | []=>True
 | H::l=>Q H/\allH Q l
theorem znT{Q:Heap->Prop}:∀ {l:List Heap},allH Q l->∀H∈l,Q H
 | [],_,H,h=>by cases h
 | x::l,h,H,hm=>by
   rcases qbd.1 hm with rfl|hm
   ·exact h.1
   ·exact znT h.2 H hm
def atG(c:Nat)(g:Prop)(i:Nat):Prop:=bif Nat.beq i c then g else True
def zjP(P:Program)(n:Nat)(K:TK)(c:Nat)(g:Prop)(all:Array Oper)(full:Env)(G:List Heap):Nat->List Oper->List (SV×Nat×Nat)->List Heap->Prop
 | _,[],[],_=>True
 | i,o::l,(v,lo,hi)::t,hs=>bif Nat.blt hi lo then(match hs with
    | H1::H2::hs=>(∀env,TO false P n all [o] (zat full (slotsOf all o)++env) H1 (NKP K (atG c g i) (putE o.dst v (zat full (slotsOf all o)++env)) H2))/\zjP P n K c g all full G (i+1) l t (H2::hs)
    | _=>False)
   else allH (fun H=>∀env,TO false P n all [o] (zat full (slotsOf all o)++env) H (NKP K (atG c g i) (putE o.dst v (zat full (slotsOf all o)++env)) H)) ((G.drop lo).take (hi+1-lo))/\zjP P n K c g all full G (i+1) l t hs
 | _,_,_,_=>False
abbrev efX (x:SV×Nat×Nat):Bool:=Nat.blt x.2.2 x.2.1
def effX(t:List (SV×Nat×Nat))(i:Nat):Nat:=((t.take i).filter efX).length
theorem zjP.get{n:Nat}{K:TK}{c:Nat}{g:Prop}{full:Env}{G:List Heap}:∀ {l:List Oper} {t:List (SV×Nat×Nat)} {hs:List Heap} {k:Nat},zjP P n K c g all full G k l t hs->l.length=t.length/\∀(i:Nat) o x,l[i]?=some o->t[i]?=some x->
   (efX x=false->allH (fun H=>∀env,TO false P n all [o] (zat full (slotsOf all o)++env) H (NKP K (atG c g (k+i)) (putE o.dst x.1 (zat full (slotsOf all o)++env)) H)) ((G.drop x.2.1).take (x.2.2+1-x.2.1)))/\
   (efX x=true->∃H1 H2,hs[effX t i]?=some H1/\hs[effX t i+1]?=some H2/\∀env,TO false P n all [o] (zat full (slotsOf all o)++env) H1 (NKP K (atG c g (k+i)) (putE o.dst x.1 (zat full (slotsOf all o)++env)) H2))
 | [],[],hs,k,_=>by simp
 | o::l,(v,lo,hi)::t,hs,k,h=>by
   simp only[zjP]at h
   cases hb:Nat.blt hi lo with
   | false=>
     rw[hb]at h
     obtain⟨h1,h2⟩:=h
     obtain⟨g1,g2⟩:=zjP.get h2
     refine⟨by simp[g1],fun i o' x' ho hv=>?_⟩
     cases i with
     | zero=>simp at ho hv;subst hv;subst ho;exact⟨fun _=>h1,fun e=>by rw[show efX (v,lo,hi)=Nat.blt hi lo from rfl,hb]at e;cases e⟩
     | succ i=>
       have:=g2 i o' x' (by simpa using ho) (by simpa using hv)
       have e:effX ((v,lo,hi)::t) (i+1)=effX t i:=by simp[effX,efX,hb]
       rw[e,show k+(i+1)=k+1+i by omega]
       exact this
   | true=>
     rw[hb]at h
     match hs,h with
     | H1::H2::hs,h=>
       obtain⟨h1,h2⟩:=h
       obtain⟨g1,g2⟩:=zjP.get h2
       refine⟨by simp[g1],fun i o' x' ho hv=>?_⟩
       cases i with
       | zero=>simp at ho hv;subst hv;subst ho;exact⟨fun e=>by(rw[show efX (v,lo,hi)=Nat.blt hi lo from rfl,hb]at e;cases e),fun _=>⟨H1,H2,rfl,rfl,h1⟩⟩
       | succ i=>
         have:=g2 i o' x' (by simpa using ho) (by simpa using hv)
         have e:effX ((v,lo,hi)::t) (i+1)=effX t i+1:=by simp[effX,efX,hb]
         rw[e,show k+(i+1)=k+1+i by omega]
         simpa using this
     | [],h=>exact h.elim
     | [_],h=>exact h.elim
 | [],_::_,_,_,h=>by exact h.elim
 | _::_,[],_,_,h=>by exact h.elim
def ztP(ops:Array Oper)(t:List (Nat×Nat))(m:Nat):Bool:=
 (List.range t.length).all fun i=>match t[i]? with
   | some x=>Nat.blt x.2 x.1 || (List.range m).all fun c=>!okC ops (t.map fun x=>Nat.blt x.2 x.1) i c || (Nat.ble x.1 c && Nat.ble c x.2)
   | none=>true
theorem TR.zaH(c:Nat){g:Prop}{n:Nat}{env0 envF:Env}{H0 HF:Heap}{K:TK}{id':Nat}{l:List Oper}(t:List (SV×Nat×Nat))(hs:List Heap)(hm:P.follows .mixedOrders=true)
  (hB:(mixB l.toArray ((t.map (·.2)).map fun x=>Nat.blt x.2 x.1) && ztP l.toArray (t.map (·.2)) hs.length)=true)(h0:hs[0]?=some H0)
  (hp:zjP P n K c g l.toArray (zba l.toArray (t.map (·.1)) env0) hs 0 l t hs)(hc:Nat.blt c l.length=true)(hF:hs[(t.filter efX).length]?=some HF)(hE:zbv (zba l.toArray (t.map (·.1)) env0)=some envF)(hK:g->K .normal envF HF):
  TR P n (.region id' l.toArray true) env0 H0 K:=by
 obtain⟨g1,g2⟩:=hp.get
 rw[qay]at hB
 obtain⟨hB,hR⟩:=hB
 have hfl:(t.map (·.2)).map (fun x=>Nat.blt x.2 x.1)=t.map efX:=by rw[qbA];rfl
 rw[hfl]at hB
 intro φ m a h1 h2 h3 h4
 have hef:∀i,((t.map efX).take i |>.filter id).length=effX t i:=by
  exact zwfl
 have hall:((t.map efX).filter id).length=(t.filter efX).length:=by
  rw[qcf,qaa];rfl
 have s0:Step m ⟨m.A,m.β,m.H,{ m.w with drawn:=m.w.drawn+1 }⟩/\HRel ⟨m.A,m.β,m.H,{ m.w with drawn:=m.w.drawn+1 }⟩:=zcO h2 ⟨rfl,rfl,rfl,qag _,fun _ _=>rfl⟩
 refine zbn (wpIn_region_any hm ?_)
 refine zfm [] (G:=fun i=>atG c g (0+i)) (vs:=t.map (·.1)) (fl:=t.map efX) (hs:=hs) (m0:=m) (fun t ht=>by cases ht) hB (by simp[g1]) (by simp[g1]) ?_ ?_ (by rw[hall];exact hF) (fun hG=>by
   rw[zaV hE]at hK
   have:=hG c (by have:=qai hc;simp;omega)
   unfold atG at this
   rw[qaO,show Nat.beq c c=true from qbq c]at this
   exact hK this) l.toArray.size (Array.replicate l.toArray.size false)
  ⟨m.A,m.β,m.H,{ m.w with drawn:=m.w.drawn+1 }⟩ a (by simp) ?_ ?_ ?_ s0.1 s0.2 ?_ (h4.step h2 s0.1)
 ·exact zwd
 ·exact zwbe
 ·exact zwfv
 ·exact zwct
 ·exact zwch
 ·exact zwh
end rules
end Go.TL
namespace Go.Proofs.YtpnnpgbaiobbjaaGreatDoor
open Go Go.TL
attribute [local irreducible] TR TO Then zap RetK Sound zab Kf GG za3
section rules
variable {n:Nat}{env env':Env}{H H':Heap}{K:TK}{all:Array Oper}{rest l:List Oper}{d:Nat}{ty:TypeId}{pos:String}{aft:Array Edge}{q:Bool}{st:St}{fr fr':List Fr1}
theorem goB(h:run1 tab n true 300 ⟨.ops q all l,env,H,[]⟩=some ⟨st,env',H',fr'⟩)(hk:GG Tryz.prog n K ⟨st,env',H',fr'⟩):TO q Tryz.prog n all l env H K:=TO.go0 zag 300 true h hk
theorem zvp{cargs:List SV}{v:SV}{f:Operand}{fid:FuncId}{caps:List SV}{args:Array Operand}{ts:Array TypeId}{vs:List SV}(hs:Pure Tryz.prog fid cargs v)(hd:Nat.ble (d+1) n=true)
  (hf:env.val f=some (.fn fid caps))(ha:env.vals args.toList=some vs)(hl:Les (vs++caps) cargs)(hu:unders 0 cargs=true)(hv:v.under 0=true)
  (k:TO false Tryz.prog n all rest ((d,v)::env) H K):
  TO false Tryz.prog n all (⟨some d,.call { callee:=.value f,args:=args,argTypes:=ts },ty,pos,aft,none⟩::rest) env H K:=TO.ze8 hs hd hf ha hl hu hv k
end rules
theorem wma{G Q:Prop}(k:Q)(h:Hold Q->G:=by
  first
  | (intro k;apply goA;exact rfl;(first|apply GG.to|apply GG.stop|apply GG.ex);exact k.p)
  | (intro k;apply goC;exact rfl;(first|apply GG.to|apply GG.stop|apply GG.ex);exact k.p)
  | (intro k;apply goB;exact rfl;(first|apply GG.to|apply GG.stop|apply GG.ex);exact k.p)):G:=h ⟨k⟩
theorem wmk{G Q:Prop}(k:Q)(h:Hold Q->G:=by
  first
  | (intro k;apply TO.want;exact rfl;exact k.p)
  | (intro k;apply TO.add;(iterate 3 exact rfl);exact zqm;exact zqm;exact k.p)
  | (intro k;apply TO.cat;(iterate 3 exact rfl);exact zqm;exact k.p)):G:=h ⟨k⟩
theorem wmv{G Q:Prop}{f:FuncId}{cargs:List SV}{v:SV}(hs:Pure Tryz.prog f cargs v)(k:Q)(h:Pure Tryz.prog f cargs v->Hold Q->G:=by
  intro hs k
  apply zvp;exact hs;(iterate 3 exact rfl);exact zqb;exact rfl;exact rfl;exact k.p):G:=h hs ⟨k⟩
end Go.Proofs.YtpnnpgbaiobbjaaGreatDoor
namespace Go.TL
open Go
theorem zvA{m:M}(hm:HRel m){R:Nat}{e:TypeId}{ts:List T}{p:Place}(hp:m.β[R]?=some p)(hH:m.H[R]?=some (.row e ts)):
  Step m ⟨m.A,m.β++[p],m.H.set R .dead++[.cells (ts.map .t)],m.w⟩/\HRel ⟨m.A,m.β++[p],m.H.set R .dead++[.cells (ts.map .t)],m.w⟩:=by
 have hR:=(qab.1 hH).1
 have hlen:=hm.len
 have pick:∀(i:Nat) q c,(m.β++[p])[i]?=some q->(m.H.set R .dead++[Blk.cells (ts.map .t)])[i]?=some c->c.live=true->(i=m.H.length/\q=p/\c= .cells (ts.map .t))\/(i≠R/\i<m.H.length/\m.β[i]?=some q/\m.H[i]?=some c):=by
  intro i q c h1 h2 hl
  by_cases hi:i<m.H.length
  ·rw[qau (by rw[hlen];exact hi)]at h1
   rw[qau (by simpa using hi)]at h2
   by_cases hir:i=R
   ·subst hir
    rw[qax hR]at h2
    cases h2;cases hl
   ·rw[qaI (by omega)]at h2
    exact .inr ⟨hir,hi,h1,h2⟩
  ·rw[qaB (by rw[hlen];omega)]at h1
   rw[qaB (by simp;omega)]at h2
   have:i=m.H.length:=by
    have:=(qab.1 h2).1
    simp at this;omega
   subst this
   simp[hlen]at h1 h2
   exact .inl ⟨rfl,h1.symm,h2.symm⟩
 have own:∀b o,Own ⟨m.A,m.β++[p],m.H.set R .dead++[.cells (ts.map .t)],m.w⟩ b o->Own m b o:=by
  rintro b o ⟨i,q,c,h1,h2,h3,h4⟩
  rcases pick i q c h1 h2 h3 with ⟨rfl,rfl,rfl⟩|⟨_,_,g1,g2⟩
  ·exact⟨R,q,_,hp,hH,rfl,h4⟩
  ·exact⟨i,q,c,g1,g2,h3,h4⟩
 have s:Step m ⟨m.A,m.β++[p],m.H.set R .dead++[.cells (ts.map .t)],m.w⟩:=by
  refine⟨rfl,rfl,rfl,qag _,fun _ _ h=>h,fun _ _ h=>.inl h,fun b o h=>.inl (own b o h),fun _ _ _ _=>rfl,fun _ _ _ _ _=>rfl,fun _ _ _=>rfl,fun _ _ h=>h,fun _ L h=>⟨L,h⟩,fun _ _ _ h=>h,fun i q hq=>⟨q,?_,?_⟩⟩
  ·show(m.β++[p])[i]?=some q
   exact zwfr
  ·have hi:i<m.H.length:=by rw[<-hlen];exact(qab.1 hq).1
   show za2 m.H[i]? (m.H.set R .dead++[Blk.cells (ts.map .t)])[i]? q q
   rw[qau (by simpa using hi)]
   by_cases hir:i=R
   ·subst hir
    rw[qax hR,hH]
    intro n' h
    cases h
   ·rw[qaI (by omega)]
    exact za2.refl _ _
 obtain⟨⟨r1,r2,r3⟩,r4,r5⟩:=hm.blk R p _ hp hH
 refine⟨s,by simp[hlen],fun i q c h1 h2=>?_,fun i j q q' c c' hij h1 h2 h3 h4 hc hc'=>?_,fun b o h hn=>hm.still b o h (own b o hn),hm.inA,fun i q c h1 h2 hc hq=>?_,s.glob hm⟩
 ·cases hlv:c.live with
  | false=>cases c <;> simp[Blk.live]at hlv;trivial
  | true=>
    rcases pick i q c h1 h2 hlv with ⟨rfl,rfl,rfl⟩|⟨_,_,g1,g2⟩
    ·refine⟨by simp[r1];exact r2,r4,fun j c hc=>?_⟩
     rw[qav]at hc
     cases ht:ts[j]? with
     | none=>rw[ht]at hc;cases hc
     | some t=>
       rw[ht]at hc;cases hc
       obtain⟨y,y1,y2,y3⟩:=r5 j t ht
       exact⟨y,y1,y2,.t _ _ y3⟩
    ·exact(hm.blk i q c g1 g2).step hm s (fun o _ _=>⟨rfl,fun _=>rfl⟩) (fun _=>rfl)
 ·rcases pick i q c h1 h2 hc with ⟨rfl,rfl,rfl⟩|⟨a0,a1,a2,a3⟩
  ·rcases pick j q' c' h3 h4 hc' with ⟨rfl,rfl,rfl⟩|⟨b0,b1,b2,b3⟩
   ·exact absurd rfl hij
   ·exact hm.apart R j _ _ _ _ (fun e=>b0 e.symm) hp hH b2 b3 rfl hc'
  ·rcases pick j q' c' h3 h4 hc' with ⟨rfl,rfl,rfl⟩|⟨b0,b1,b2,b3⟩
   ·exact hm.apart i R _ _ _ _ a0 a2 a3 hp hH hc rfl
   ·exact hm.apart i j _ _ _ _ hij a2 a3 b2 b3 hc hc'
 ·rcases pick i q c h1 h2 hc with ⟨rfl,rfl,rfl⟩|⟨a0,a1,a2,a3⟩
  ·exact hm.inO R _ _ hp hH rfl hq
  ·exact hm.inO i q c a2 a3 hc hq
section rules
variable {P:Program}{n:Nat}{env:Env}{H:Heap}{K:TK}{all:Array Oper}{rest:List Oper}{tab:Tab}
variable {d:Nat}{ty:TypeId}{pos:String}{aft:Array Edge}{q:Bool}
theorem TO.fix(x:Nat){R len:Nat}{e:TypeId}{ts:List T}{H':Heap}{ops:List Oper}(hx:env.look x=some (.rw R len))(hH:H[R]?=some (.row e ts))(hl:len=ts.length)(hpos:0<ts.length)(hH':H.set R .dead++[.cells (ts.map .t)]=H')
  (k:TO false P n all ops ((x,.ms 1 H.length 0 len)::env) H' K):TO false P n all ops env H K:=by
 intro φ m a h1 h2 h3 h4
 obtain⟨y,y1,y2⟩:=h3.2 x _ hx
 cases y2 with
 | rw _ _ _ p hp hxs ho=>
   have hH1:m.H[R]?=some (.row e ts):=by rw[h1];exact hH
   obtain⟨s,hm'⟩:=zvA h2 hp hH1
   have hho:=(ho ts.length (by rw[hH1];rfl)).2 (by rw[hl])
   obtain⟨ad,cap,hyq,hc1,hc2,hc3,hc4⟩:=hho
   have hE:ERel ⟨m.A,m.β++[p],m.H.set R .dead++[.cells (ts.map .t)],m.w⟩ n ((x,.ms 1 H.length 0 len)::env) a.tmps:=by
    refine⟨h3.1,fun i v hv=>?_⟩
    by_cases hi:x=i
    ·subst hi
     rw[Env.zan]at hv
     cases hv
     refine⟨y,y1,?_⟩
     cases ad with
     | none=>simp only at hc4;omega
     | some a0=>
       obtain⟨hc4,hc5⟩:=hc4
       subst hyq hc4
       have hz:(⟨p.b,0,none⟩:Addr)=⟨p.b,p.lo+0,none⟩:=by rw[hc2]
       rw[hz]
       refine .ms 1 H.length 0 len cap p ?_ ?_ hc1 (by omega)
       ·show(m.β++[p])[H.length]?=some p
        rw[<-h1,<-h2.len,qaB (qag _)];simp
       ·intro n' hn
        have:(m.H.set R .dead++[Blk.cells (ts.map .t)])[H.length]?=some (.cells (ts.map .t)):=by
         rw[<-h1,qaB (by simp)];simp
        rw[show(M.H ⟨m.A,m.β++[p],m.H.set R .dead++[.cells (ts.map .t)],m.w⟩)[H.length]?=_ from this]at hn
        cases hn
    ·rw[Env.zak _ _ hi]at hv
     exact(h3.step h2 s).2 i v hv
   exact TO.ze1 (m':=⟨m.A,m.β++[p],m.H.set R .dead++[.cells (ts.map .t)],m.w⟩) s (k φ ⟨m.A,m.β++[p],m.H.set R .dead++[.cells (ts.map .t)],m.w⟩ a (by show m.H.set R .dead++_=H';rw[h1];exact hH') hm' hE (h4.step h2 s))
theorem TO.effV{op:Op}{H':Heap}
  (h:∀(m:M) (a:Act),m.H=H->HRel m->ERel m n env a.tmps->∃x m',(execOp a.eval ⟨none,op,ty,pos,aft,none⟩).run P m.w= .ok (.value x) m'.w/\Step m m'/\HRel m'/\m'.H=H')
  (k:TO false P n all rest env H' K):TO false P n all (⟨none,op,ty,pos,aft,none⟩::rest) env H K:=by
 intro φ m a h1 h2 h3 h4
 obtain⟨x,m',hx,s,hm',hH'⟩:=h m a h1 h2 h3
 refine wpListIn_plain rfl fun K' hK=>?_
 unfold Oper.wpIn
 refine⟨fun _ _=>trivial,?_⟩
 rw[za6 hx (by intro d e;cases e)]
 simp only[Oper.uponIn]
 exact hK _ _ (TO.ze1 s (k φ m' _ hH' hm' (by simpa [Act.put]using h3.step h2 s) (by simpa [Act.put]using h4.step h2 s)))
theorem TO.zvu(hT:zaC P tab){t e:TypeId}{i ie:TyI}{z:T}{x:Operand}{id off len:Nat}{cs:List SV}{H':Heap}(ht:tab.get t=some i)(hk:i.k= .slice e)(he:tab.get e=some ie)(hz:ie.zero=[z])(hag:ie.k.agg=false)
  (hx:env.val x=some (.ms 1 id off len))(hH:H[id]?=some (.cells cs))(hpos:0<len)(hl:off+len≤cs.length)(hH':H.set id (.cells (splice cs off (List.replicate len (.t z))))=H')
  (k:TO false P n all rest env H' K):TO false P n all (⟨none,.call { callee:=.builtin .clear,args:=#[x],argTypes:=#[t] },ty,pos,aft,none⟩::rest) env H K:=
 TO.effV (fun m ac h1 h2 h3=>by
  obtain⟨zz,hz1,hz2,_,hz4⟩:=(hT e ie he).zero
  obtain⟨g1,g0,g2⟩:=zb3 (A:=m.A) (w:=m.w) _ _ hz2
  have hzz:zz.cells= #[zz]:=by
   exact zwgk
  have h:=h3.val hx
  generalize hq:ac.eval x=u at h
  cases h with
  | ms _ _ _ _ cap p hp hn hc hh=>
    have hH1:m.H[id]?=some (.cells cs):=by rw[h1];exact hH
    obtain⟨b1,b2,b3⟩:=h2.blk id p _ hp hH1
    have hzr:TRel m.A m.w z zz:=g2 0 z zz (by rw[hz];rfl) (by rw[hzz];rfl)
    obtain⟨s,hm'⟩:=zf8 h2 (off:=off) (vs:=List.replicate len (.t z)) (ys:=List.replicate len zz) hp hH1 (by simpa using hl) (by simpa using hpos) (by simp) (fun u hu=>by rw[List.eq_of_mem_replicate hu];exact hz4 hag)
     (fun j c y hc hy=>by
       rw[qbZ]at hc hy
       split at hc
       ·rename_i hj
        rw[if_pos hj]at hy
        cases hc;cases hy
        exact .t _ _ hzr
       ·cases hc)
    refine⟨.tuple #[],_,?_,s,hm',by rw[h1];exact hH'⟩
    have hun:=(hT t i ht).slice hk
    have hrun:=Go.Lib.run_clear_slice (P:=P) m.w t e ty zz hun (fun w=>hz1 w) hzz (hz4 hag) p.b (p.lo+off) len cap hpos (fun j hj=>(b2 _ (by omega) (by omega)).1) (fun j hj=>(b2 _ (by omega) (by omega)).2)
    simp[execOp,resolve,invoke,hq,builtin,hrun]) k
theorem TO.zjH(hT:zaC P tab){t e:TypeId}{i ie:TyI}{x z:Operand}{sz id off len b:Nat}{ik:IntKind}(hd:Nat.ble (d+1) n=true)(ht:tab.get t=some i)(hk:i.k= .slice e)(he:tab.get e=some ie)(hsz:ie.size=sz)
  (hx:env.val x=some (.ms sz id off len))(hz:env.val z=some (.t (.v (.int ik (b:Int)))))(h2:b<len)
  (k:TO q P n all rest ((d,.ms sz id (off+b*sz) (len-b))::env) H K):TO q P n all (⟨some d,.slice t x (some z) none none,ty,pos,aft,none⟩::rest) env H K:=
 TO.op hd (fun m ac g1 g2 g3=>by
  have h:=g3.val hx
  generalize hq:ac.eval x=v at h
  cases h with
  | ms _ _ _ _ cap p hp hn hc hh=>
    refine⟨.slice (some ⟨p.b,p.lo+(off+b*sz),none⟩) (len-b) (cap-b),fun w' hw'=>?_,.ms sz id (off+b*sz) (len-b) (cap-b) p hp hn (by omega) ?_⟩
    ·have:=zcI (P:=P) hT ht hk he (some ⟨p.b,p.lo+off,none⟩) len cap (some (ac.eval z)) none b len w' (.inr ⟨ik,by rw[(g3.val hz).v_eq]⟩) (.inl ⟨rfl,rfl⟩) (by omega) (by omega)
     rw[if_neg (by omega),hsz]at this
     simp only[qbb,zbx,qa1]at this
     simp[execOp,hq,this]
    ·have:b*sz+(cap-b)*sz=cap*sz:=by rw[<-qaZ];congr 1;omega
     omega) k
theorem TO.zj8{ops:List Oper}(i sz id len:Nat){cs:List SV}{es:List T}{H':Heap}(hi:env.look i=some (.ms sz id 0 len))(hH:H[id]?=some (.cells cs))(hcl:es.length*sz≤cs.length)(hcs:∀(j:Nat) c,((es.map T.cells).flatten.map SV.t)[j]?=some c->cs[j]?=some c)(hlen:len=es.length)(hsz:∀e∈es,e.cells.length=sz)
  (hpos:Nat.ble 1 sz=true)(hH':H.set id .dead=H')(k:TO false P n all ops ((i,.t (.sl sz es))::env) H' K):TO false P n all ops env H K:=by
 intro φ m a h1 h2 h3 h4
 have hp':=qai hpos
 obtain⟨x,hx1,hx2⟩:=h3.2 i _ hi
 subst hlen
 obtain⟨l1,l2⟩:=zcd es hsz
 cases hx2 with
 | ms _ _ _ _ cap p hp hn hc hh=>
   have hH1:m.H[id]?=some (.cells cs):=by rw[h1];exact hH
   obtain⟨b1,b2,b3⟩:=h2.blk id p _ hp hH1
   have hex:∀j,∃y,j<cs.length->m.w.cell? ⟨p.b,p.lo+j,none⟩=some y/\y.oneCell'=true/\∀c,cs[j]?=some c->SRel m c y:=by
    exact zwbk
   let f:Nat->Value:=fun j=>Classical.choose (hex j)
   have hf:=fun j=>qcA (hex j)
   obtain⟨s,hm'⟩:=zih h2 (k1:=.dead) (p':=p) (A':=fun b o=>m.A b o\/(b=p.b/\p.lo≤o/\o<p.lo+cs.length)) (w':=m.w) hp hH1 rfl rfl rfl rfl (qag _) (fun _ _ _ _=>rfl) (fun _ _ _ _ _=>rfl) (fun _ _ _=>rfl) (fun _ _ _ h=>h) (fun _ _ h=>h)
    (fun _ _ h=>.inl h) (fun b o h=>by
      rcases h with h|h
      ·exact .inl h
      ·exact .inr (.inl (by omega))) (fun h=>by cases h) (fun h=>by cases h) (fun o q1 q2=>(b2 o q1 q2).1) ⟨rfl,fun n'=>by simp[tlOf]⟩ (fun _=>trivial)
   have hlt:∀q j,q<es.length->j<sz->q*sz+j<cs.length:=fun q j hq hj=>by
    exact zwep
   have hr:SRel ⟨fun b o=>m.A b o\/(b=p.b/\p.lo≤o/\o<p.lo+cs.length),m.β.set id p,m.H.set id .dead,m.w⟩ (.t (.sl sz es)) (.slice (some ⟨p.b,p.lo+0,none⟩) es.length cap):=by
    refine .t _ _ (.sl sz es p.b (p.lo+0) cap f hc (fun j e he=>hsz e (qat he)) (fun q j hq hj=>.inr ⟨rfl,by omega,by have:=hlt q j hq hj;omega⟩) (fun q j hq hj=>(hf _ (hlt q j hq hj)).1) (fun q j hq hj=>(hf _ (hlt q j hq hj)).2.1) (fun q e j c he hc'=>?_))
    have hq:=(qab.1 he).1
    have hj:=(qab.1 hc').1
    rw[hsz e (qat he)]at hj
    have hcc:cs[q*sz+j]?=some (.t c):=hcs _ _ (by rw[qav,l2 q j e c he hc'];rfl)
    exact zwex
   refine TO.ze1 (m':=⟨fun b o=>m.A b o\/(b=p.b/\p.lo≤o/\o<p.lo+cs.length),m.β.set id p,m.H.set id .dead,m.w⟩) s (k φ ⟨fun b o=>m.A b o\/(b=p.b/\p.lo≤o/\o<p.lo+cs.length),m.β.set id p,m.H.set id .dead,m.w⟩ a (by rw[h1];exact hH') hm' ⟨h3.1,fun j v hv=>?_⟩ (h4.step h2 s))
   by_cases hj:i=j
   ·exact zwgn
   ·exact zwgd
end rules
end Go.TL
