import Derived.Test.YtpnnpgbaiobbjaaGreatDoorAk34
set_option linter.all false
namespace Go.Proofs.YtpnnpgbaiobbjaaGreatDoor
open Go Go.TL
attribute [local irreducible] TR TO Then zao RetK Sound zab Kf GG zaZ
def zec:Nat->List Auto->Nat
 | 0,_=>0
 | m+1,l=>l.foldl (fun n a=>a.states.foldl (fun n s=>n+zec m s.autos) (n+a.states.length)) 0
theorem ztd(m:Nat)(a:Auto)(n:Nat):n≤a.states.foldl (fun n s=>n+zec m s.autos) (n+a.states.length):=qaE (qbx _ _) (zhH (fun _ _=>qbx _ _) _ _)
theorem zfC{α:Type}(f:α->Nat):∀(l:List α) (n:Nat),l.foldl (fun n x=>n+f x) n=n+(l.map f).sum
 | [],n=>rfl
 | x::l,n=>by rw[qaU,zfC f l,qaj,qao,qaZ]
theorem zrL(m:Nat)(l:List Auto):zec (m+1) l=(l.map fun a=>(a.states.map fun s=>1+zec m s.autos).sum).sum:=by
 have h:(fun(n:Nat) (a:Auto)=>a.states.foldl (fun n s=>n+zec m s.autos) (n+a.states.length))=fun n a=>n+(a.states.map fun s=>1+zec m s.autos).sum:=by
  funext n a
  rw[zfC,zhf,qaZ]
 rw[zec,h,zfC,qaO]
theorem zne:∀(m:Nat) (l:List Auto),zec m l≤(T.sl 1 (l.map zae)).w
 | 0,l=>qaK _
 | m+1,l=>by
   rw[zrL,w_sl,qbp]
   have h1:=zdH (l:=l) (f:=fun a=>(a.states.map fun s=>1+zec m s.autos).sum) (g:=T.w ∘ zae) fun a _=>by
    have h2:=zdH (l:=a.states) (f:=fun s=>1+zec m s.autos) (g:=fun s=>(staT s).w) fun s _=>by
     have h3:=zne m s.autos
     have h4:=zdK s
     have h6:=ziS (zac s.locals)
     omega
    have h5:=zbJ a
    rw[w_sl,qbp]at h5
    have e:(T.w ∘ staT)=fun s=>(staT s).w:=rfl
    rw[e]at h5
    show _≤(zae a).w
    omega
   omega
theorem ztW:∀(k m:Nat) (l:List Auto),Dp k l->k≤m->zec m l=staD k l
 | 0,m,l,h,_=>by
   rw[show l=[] from h]
   cases m <;> rfl
 | k+1,0,_,_,h=>by omega
 | k+1,m+1,l,h,hm=>by
   rw[zrL,staD]
   have:∀l:List Auto,(∀a∈l,∀s∈a.states,Dp k s.autos)->(l.map fun a=>(a.states.map fun s=>1+zec m s.autos).sum)=l.map fun a=>(a.states.map fun s=>1+staD k s.autos).sum:=fun l hl=>by
    refine qbN fun a ha=>?_
    rw[qbN fun s hs=>by rw[ztW k m s.autos (hl a ha s hs) (by omega)]]
   rw[this l h]
theorem zpZ:∀(k m:Nat) (l:List Auto),Dp k l->k≤m->zbq m l=cntD k l
 | 0,m,l,h,_=>by
   rw[show l=[] from h]
   cases m <;> rfl
 | k+1,0,_,_,h=>by omega
 | k+1,m+1,l,h,hm=>by
   have h1:(fun(n:Nat) (a:Auto)=>a.states.foldl (fun n s=>n+zbq m s.autos) n)=fun n a=>n+(a.states.map fun s=>zbq m s.autos).sum:=by
    funext n a
    rw[zfC]
   rw[zbq,h1,zfC,cntD,zhf]
   have:∀l:List Auto,(∀a∈l,∀s∈a.states,Dp k s.autos)->(l.map fun a=>(a.states.map fun s=>zbq m s.autos).sum)=l.map fun a=>(a.states.map fun s=>cntD k s.autos).sum:=fun l hl=>by
    refine qbN fun a ha=>?_
    rw[qbN fun s hs=>by rw[zpZ k m s.autos (hl a ha s hs) (by omega)]]
   rw[this l h]
set_option maxHeartbeats 4000000 in
theorem zfU:∀(m:Nat) (l:List Auto),(T.sl 1 (l.map zae)).w≤100000000->(T.sl 1 (l.map zae)).w≤m->Pure Tryz.prog 18 [.t (.sl 1 (l.map zae))] (.i (zec m l:Nat))
 | 0,l,_,hm=>by have:=ziS (T.sl 1 (l.map zae));omega
 | m+1,l,hl,hm=>by
   have ih:=zfU m
   have hml:(l.map zae).length=l.length:=qaa _
   have hlb:=zai zae 1 l
   have htot:=zne (m+1) l
   unfold zec at htot⊢
   obtain⟨fs,hfs⟩:∃fs:Nat->Sta->Nat,fs=fun n s=>n+zec m s.autos:=⟨_,rfl⟩
   obtain⟨g,hg⟩:∃g:Nat->Auto->Nat,g=fun n x=>x.states.foldl fs (n+x.states.length):=⟨_,rfl⟩
   rw[show(fun(n:Nat) (a:Auto)=>a.states.foldl (fun n s=>n+zec m s.autos) (n+a.states.length))=g by rw[hg,hfs]]at htot⊢
   have hge:∀a n,n≤g n a:=fun a n=>by rw[hg,hfs];exact ztd m a n
   refine so Tryz.func18 ?_
   repeat' (first|refine wkt ?_|fail)
   refine TR.zal l.length (fun _=>True) (fun j=>[(0,.t (.sl 1 (l.map zae))),(3,.i (((l.take j).foldl g 0:Nat):Int)),(4,.i j)]) (fun _=>[]) trivial (fun j hlt _=>?_) (fun _=>?_) ⟨rfl,rfl,rfl,trivial⟩ rfl
   ·have hx:=zar zae hlt
    rw[zbV]at hx
    have hn:=zau g 0 hlt
    have hup:(l.take (j+1)).foldl g 0≤l.foldl g 0:=zen hge l _ _
    have hsi:=fun s hs=>zgM (qad hlt) (s:=s) hs
    have hsb:l[j].states.length≤100000000:=by
     exact zwcw
    rw[hn]at hup
    generalize (l.take j).foldl g 0=acc at*
    have hgx:g acc l[j]=l[j].states.foldl fs (acc+l[j].states.length):=by rw[hg]
    rw[hgx]at hn hup
    clear hgx hge
    generalize l[j]=x at*
    obtain⟨sts⟩:=x
    simp only[Auto.states]at hx hn hup hsi hsb
    have hmc:(sts.map staT).length=sts.length:=qaa _
    have hacc:acc+sts.length≤sts.foldl fs (acc+sts.length):=zhH (fun s n=>by rw[hfs];exact qbx _ _) _ _
    repeat' (first|refine wkt ?_|refine zqp ?_|refine zqw ?_|exact wkc|intro hc|refine wk2 ?_ ?_|fail)
    refine TR.zal sts.length (fun _=>True) (fun k=>[(0,.t (.sl 1 (l.map zae))),(3,.i (((sts.take k).foldl fs (acc+sts.length):Nat):Int)),(4,.i j),(5,.i k)]) (fun _=>[]) trivial (fun k hlk _=>?_) (fun _=>?_) ⟨rfl,by rw[qbu,qcL,qbT,<-hmc];rfl,rfl,rfl,trivial⟩ rfl
    ·have hy:=zar staT hlk
     rw[za8]at hy
     have hn2:=zau fs (acc+sts.length) hlk
     have hup2:(sts.take (k+1)).foldl fs (acc+sts.length)≤sts.foldl fs (acc+sts.length):=zen (fun s n=>by rw[hfs];exact qbx _ _) sts _ _
     rw[hn2]at hup2
     have hw:=hsi _ (qad hlk)
     generalize (sts.take k).foldl fs (acc+sts.length)=acc2 at*
     have hfx:fs acc2 sts[k]=acc2+zec m sts[k].autos:=by rw[hfs]
     rw[hfx]at hn2 hup2
     have c2:=ih sts[k].autos (by omega) (by omega)
     generalize zec m sts[k].autos=c at*
     generalize sts[k]=s at*
     repeat' (first|refine wkt ?_|refine zqp ?_|refine zqq ?_|refine wv c2 ?_|refine zqw ?_|refine zab.exit ?_|exact wkc|intro hc|refine wk2 ?_ ?_|refine wk ?_|fail)
     exact zab.zat hlk trivial (by(try dsimp only);rw[hn2,qbT];exact⟨rfl,rfl,rfl,rfl,trivial⟩) rfl
    ·rw[qah,<-hn]
     repeat' (first|refine wkt ?_|refine zqp ?_|refine zab.exit ?_|exact wkc|intro hc|refine wk2 ?_ ?_|refine wk ?_|fail)
     exact zab.zat hlt trivial (by(try dsimp only);exact⟨rfl,rfl,rfl,trivial⟩) rfl
   ·rw[qah]
    repeat' (first|refine wkt ?_|refine zab.exit ?_|exact wkc|intro hc|refine wk2 ?_ ?_|refine wk ?_|fail)
    exact wkr
theorem zcr{x:Str}(a:List Str)(s:Str):x∈ins a s ↔ x∈a\/x=s:=by
 unfold ins
 split
 ·rename_i h
  exact⟨.inl,fun h2=>h2.elim id fun e=>e ▸ h⟩
 ·simp
theorem zaM{α:Type}{x:Str}{f:List Str->α->List Str}{Q:α->Prop}:∀ {l:List α} {a:List Str},(∀a,∀y∈l,(x∈f a y ↔ x∈a\/Q y))->(x∈l.foldl f a ↔ x∈a\/∃y∈l,Q y)
 | [],a,_=>by simp
 | y::l,a,h=>by
   rw[qaU,zaM fun a z hz=>h a z (qar _ hz),h a y (qas ..)]
   simp[or_assoc]
def InD(x:Str)(l:List Decl):Prop:=∃d∈l,x=d.name\/∃o∈d.clock,x=o.name
def InE(x:Str)(e:Ex):Prop:=∃y∈flat e,zlf y.kind.1=true/\x=y.name
theorem zeJ{x:Str}{a:List Str}{l:List Decl}:x∈za1 a l ↔ x∈a\/InD x l:=zaM fun a d _=>by
 rw[zaM (Q:=fun o:OnC=>x=o.name) fun a o _=>zcr a o.name,zcr]
 simp[or_assoc]
theorem zhW{x:Str}{a:List Str}{e:Ex}:x∈zqA a e ↔ x∈a\/InE x e:=zaM fun a y _=>by
 unfold oneL
 by_cases h:zlf y.kind.1=true
 ·rw[if_pos h,zcr]
  simp[h]
 ·rw[if_neg h]
  simp[h]
def NoE(e:Ex):Prop:=∀y∈flat e,zlf y.kind.1=false->y.kind.1=11\/y.name=[]
theorem zvC{k:Int}(h:zlf k=true):k≠11:=by
 unfold zlf at h
 simp at h
 exact h.2.2.2.2.2.2
theorem zfM{x:Str}(hx:x≠ []){a:List Str}{e:Ex}(he:NoE e):x∈zbm a e ↔ x∈a\/InE x e:=zaM fun a y hy=>by
 unfold oneA
 by_cases h:zlf y.kind.1=true
 ·rw[if_neg (zvC h),zcr]
  simp[h]
 ·by_cases h2:y.kind.1=11
  ·rw[if_pos h2]
   simp[h]
  ·rw[if_neg h2,zcr]
   rcases he y hy (by simpa using h)with h3|h3
   ·exact absurd h3 h2
   ·rw[h3]
    simp[h,hx]
def InS(x:Str):Nat->List Equ->List Auto->Prop
 | 0,_,_=>False
 | m+1,qs,l=>(∃q∈qs,x∈q.left)\/∃a∈l,∃s∈a.states,x=s.name\/InD x s.locals\/InS x m s.eqs s.autos
def InX(x:Str):Nat->List Equ->List Auto->Prop
 | 0,_,_=>False
 | m+1,qs,l=>(∃q∈qs,InE x q.right)\/∃a∈l,∃s∈a.states,InX x m s.eqs s.autos\/∃t∈s.unl++s.unt,InE x t.cond
def NoA:Nat->List Equ->List Auto->Prop
 | 0,_,_=>True
 | m+1,qs,l=>(∀q∈qs,NoE q.right)/\∀a∈l,∀s∈a.states,NoA m s.eqs s.autos/\∀t∈s.unl++s.unt,NoE t.cond
theorem mem_left{x:Str}{q:Equ}{a:List Str}:x∈q.left.foldl ins a ↔ x∈a\/x∈q.left:=by
 rw[zaM (Q:=fun s=>x=s) fun a s _=>zcr a s]
 simp
theorem zhX{x:Str}:∀(m:Nat) (a:List Str) (qs:List Equ) (l:List Auto),x∈zfc m a qs l ↔ x∈a\/InS x m qs l
 | 0,a,_,_=>by simp[zfc,InS]
 | m+1,a,qs,l=>by
   rw[zfc,InS,zaM (Q:=fun y:Auto=>∃s∈y.states,x=s.name\/InD x s.locals\/InS x m s.eqs s.autos) fun a y _=>zaM fun a s _=>by rw[zhX m,zeJ,zcr];simp[or_assoc]]
   rw[show lhsL a qs=qs.foldl (fun a q=>q.left.foldl ins a) a from rfl,zaM (Q:=fun q:Equ=>x∈q.left) fun a q _=>mem_left]
   rw[or_assoc]
theorem zjk{x:Str}:∀(m:Nat) (a:List Str) (qs:List Equ) (l:List Auto),x∈zhE m a qs l ↔ x∈a\/InX x m qs l
 | 0,a,_,_=>by simp[zhE,InX]
 | m+1,a,qs,l=>by
   rw[zhE,InX,zaM (Q:=fun y:Auto=>∃s∈y.states,InX x m s.eqs s.autos\/∃t∈s.unl++s.unt,InE x t.cond) fun a y _=>zaM fun a s _=>by
    rw[zaM (Q:=fun t:Tran=>InE x t.cond) fun a t _=>zhW,zjk m]
    simp[or_assoc]]
   rw[zaM (Q:=fun q:Equ=>InE x q.right) fun a q _=>zhW,or_assoc]
theorem zlo{x:Str}(hx:x≠ []):∀(m:Nat) (a:List Str) (qs:List Equ) (l:List Auto),NoA m qs l->(x∈zcv m a qs l ↔ x∈a\/InS x m qs l\/InX x m qs l)
 | 0,a,_,_,_=>by simp[zcv,InS,InX]
 | m+1,a,qs,l,h=>by
   rw[zcv,zaM (Q:=fun y:Auto=>∃s∈y.states,(x=s.name\/InD x s.locals\/InS x m s.eqs s.autos)\/(InX x m s.eqs s.autos\/∃t∈s.unl++s.unt,InE x t.cond)) fun a y hy=>zaM fun a s hs=>by
    rw[zaM (Q:=fun t:Tran=>InE x t.cond) fun a t ht=>zfM hx ((h.2 y hy s hs).2 t ht),zlo hx m _ _ _ (h.2 y hy s hs).1,zeJ,zcr]
    simp only[or_assoc]]
   rw[zaM (Q:=fun q:Equ=>x∈q.left\/InE x q.right) fun a q hq=>by rw[zfM hx (h.1 q hq),mem_left,or_assoc]]
   rw[InS,InX]
   constructor
   ·rintro((h1|⟨q,hq,h1|h1⟩)|⟨y,hy,s,hs,h1|h1⟩)
    ·exact .inl h1
    ·exact .inr (.inl (.inl ⟨q,hq,h1⟩))
    ·exact .inr (.inr (.inl ⟨q,hq,h1⟩))
    ·exact .inr (.inl (.inr ⟨y,hy,s,hs,h1⟩))
    ·exact .inr (.inr (.inr ⟨y,hy,s,hs,h1⟩))
   ·rintro(h1|(⟨q,hq,h1⟩|⟨y,hy,s,hs,h1⟩)|(⟨q,hq,h1⟩|⟨y,hy,s,hs,h1⟩))
    ·exact .inl (.inl h1)
    ·exact .inl (.inr ⟨q,hq,.inl h1⟩)
    ·exact .inr ⟨y,hy,s,hs,.inl h1⟩
    ·exact .inl (.inr ⟨q,hq,.inr h1⟩)
    ·exact .inr ⟨y,hy,s,hs,.inr h1⟩
theorem zq9{x:Str}(hx:x≠ []){m:Nat}{a b:List Str}{n:Nod}(h:NoA m n.eqs n.autos)(h2:∀e∈n.assume++n.ensure,NoE e)(hab:x∈a ↔ x∈b):x∈zfO m a n ↔ x∈zmW m b n:=by
 unfold zfO zmW znU
 rw[zaM (Q:=fun e:Ex=>InE x e) fun a e he=>zfM hx (h2 e (qbV _ he)),zaM (Q:=fun e:Ex=>InE x e) fun a e he=>zfM hx (h2 e (qby _ he)),zlo hx m _ _ _ h,zeJ,zcr]
 rw[zaM (Q:=fun e:Ex=>InE x e) fun a e he=>zhW,zjk,zhX,zeJ,zcr,hab]
 have e:(∃y∈n.assume++n.ensure,InE x y) ↔ (∃y∈n.assume,InE x y)\/∃y∈n.ensure,InE x y:=by
  simp[or_and_right,exists_or]
 rw[e]
 simp only[or_assoc]
theorem zra{x:Str}(hx:x≠ []){m:Nat}{p:Prog}(h:∀n∈p.nodes,NoA m n.eqs n.autos/\∀e∈n.assume++n.ensure,NoE e):x∈zcg m p ↔ x∈zvE m p:=by
 have:∀(l:List Nod) (a b:List Str),(∀n∈l,NoA m n.eqs n.autos/\∀e∈n.assume++n.ensure,NoE e)->(x∈a ↔ x∈b)->(x∈l.foldl (zfO m) a ↔ x∈l.foldl (zmW m) b):=by
  intro l
  induction l with
  | nil=>intro a b _ h;exact h
  | cons n l ih=>intro a b hl hab;exact ih _ _ (fun k hk=>hl k (qar _ hk)) (zq9 hx (hl n (qas ..)).1 (hl n (qas ..)).2 hab)
 exact this p.nodes _ _ h Iff.rfl
theorem zlr{es:List En}{e:Ex}(h:zbY es e=0):NoE e:=fun y hy hk=>by
 have h1:zaf oneX (flat e)=0:=by
  unfold zbY at h
  split at h
  ·rename_i hc
   unfold zgx at hc
   split at hc
   ·cases hc
   ·exact hc
  ·rename_i hc;exact absurd h hc
 have h2:=zaj h1 y hy
 have hfew:y.args.length≤64:=by
  unfold oneX oneI at h2
  split at h2
  ·cases h2
  ·omega
 unfold oneX at h2
 rw[zrp _ _ _ _ _ _ (by omega)]at h2
 have hf:zhI y.kind.1 y.op.1 y.t.1 y.v.1 y.name y.args.length=true:=by
  cases hq:zhI y.kind.1 y.op.1 y.t.1 y.v.1 y.name y.args.length with
  | true=>rfl
  | false=>rw[hq]at h2;simp at h2;split at h2 <;> simp at h2
 unfold zhI at hf
 split at hf
 ·cases hf
 split at hf
 ·cases hf
 split at hf
 ·cases hf
 rename_i h3
 by_cases h11:y.kind.1=11
 ·exact .inl h11
 refine .inr (qav fun hn=>h3 ⟨?_,h11,hn⟩)
 unfold zlf at hk
 unfold zlp
 simp at hk⊢
 omega
theorem ztI{es:List En}:∀(m k:Nat) (qs:List Equ) (l:List Auto),(∀q∈qs,OkQ es q)->(∀a∈l,OkA es k a)->NoA m qs l
 | 0,_,_,_,_,_=>trivial
 | m+1,k,qs,l,hq,hl=>by
   refine⟨fun q h=>zlr (hq q h).right,fun a ha s hs=>?_⟩
   cases k with
   | zero=>exact absurd (hl a ha) id
   | succ k=>
     have h:=(hl a ha).2 s hs
     refine⟨ztI m k _ _ h.eqs h.autos,fun t ht=>?_⟩
     rcases qaF.1 ht with ht|ht
     ·exact zlr (h.unl t ht).cond
     ·exact zlr (h.unt t ht).cond
theorem zga{α β:Type}{f:β->α->β×Int}{a:β}{l:List α}(h:(zam f a l).2=0)(k:Nat):(zam f a (l.take k)).2=0:=qav fun hc=>by
 have h1:=zc7 f (l.take k) (l.drop k) a
 rw[qaS,if_neg hc]at h1
 rw[h1]at h
 exact hc h
theorem zrC(l:List (Int×Str×Int))(s:Str)(i:Int):(zaK (l++[(1,s,i)]) 1 s).isSome=true:=by
 unfold zaK
 rw[Option.isSome_map,List.find?_isSome]
 exact⟨(1,s,i),by simp,by simp⟩
theorem zrh{p:Prog}(h:(zb3 p).2=0)(k:Nat)(hk:k+1<p.nodes.length):p.nodes[k+1].name≠p.nodes[k].name:=fun hn=>by
 have hsh:=zgJ h
 unfold zb3 at h
 rw[if_neg (by simp[hsh])]at h
 have h1:(zam enF [] p.enums.zipIdx).2=0:=qav fun hh=>by rw[if_pos hh]at h;exact hh h
 rw[if_neg (by simp[h1])]at h
 have h2:(zam (nodF p) (zam enF [] p.enums.zipIdx).1 p.nodes.zipIdx).2=0:=qav fun hh=>by rw[if_neg hh]at h;exact hh h
 generalize (zam enF [] p.enums.zipIdx).1=s0 at*
 have hl:p.nodes.zipIdx.length=p.nodes.length:=by simp
 have e1:=zbe (f:=nodF p) (a:=s0) (l:=p.nodes.zipIdx) (k:=k) (by omega) (zga h2 k)
 have e2:=zbe (f:=nodF p) (a:=s0) (l:=p.nodes.zipIdx) (k:=k+1) (by omega) (zga h2 (k+1))
 have z2:=zga h2 (k+1+1)
 rw[e2,e1]at z2
 generalize (zam (nodF p) s0 (p.nodes.zipIdx.take k)).1=st at*
 have x1:p.nodes.zipIdx[k]'(by omega)=(p.nodes[k]'(by omega),k):=by simp
 have x2:p.nodes.zipIdx[k+1]'(by omega)=(p.nodes[k+1],k+1):=by simp
 rw[x1,x2]at z2
 have z3:(zcI p (st++[(1,(p.nodes[k]'(by omega)).name,(k:Int))]) ((k+1:Nat):Int) p.nodes[k+1]).2=0:=z2
 unfold zcI at z3
 rw[hn,if_pos (zrC _ _ _)]at z3
 cases z3
theorem ztK{es:List En}:∀(k:Nat) (l:List Auto),(∀a∈l,OkA es k a)->Dp k l
 | 0,l,h=>by
   rcases l with _|⟨a,l⟩
   ·rfl
   ·exact absurd (h a (qas ..)) id
 | k+1,l,h=>fun a ha s hs=>ztK k _ ((h a ha).2 s hs).autos
theorem zpt:∀(k:Nat) (l:List Auto),Dp k l->Dp (k+1) l
 | 0,l,h=>fun a ha=>by rw[show l=[] from h]at ha;cases ha
 | k+1,l,h=>fun a ha s hs=>zpt k _ (h a ha s hs)
theorem zrl{p:Prog}(h:OkP p){n:Nod}(hn:n∈p.nodes):Dp 4 n.autos:=zpt 3 _ (ztK 3 _ (h.nodes n hn).autos)
theorem zo9{p:Prog}(h:OkP p){n:Nod}(hn:n∈p.nodes):n.name∈zcg 100000000 p:=by
 have ho:=h.nodes n hn
 have hne:n.name≠ []:=(zla ho.name).2.1
 rw[zra hne]
 ·refine zn7 hn (fun a x _=>ztf _ a x) fun a=>?_
  unfold zmW znU
  exact sub_fold (fun a e _=>zhd a e) (zim _ _ _ _ (zgj _ _ _ _ (zgi _ _ (zq8 a n.name))))
 ·intro n hn
  have ho:=h.nodes n hn
  refine⟨ztI _ 3 _ _ ho.eqs ho.autos,fun e he=>?_⟩
  rcases qaF.1 he with he|he
  ·exact zlr (ho.assume e he)
  ·exact zlr (ho.ensure e he)
theorem zdz(p:Prog)(j:Nat)(h:j<p.nodes.length):expJ p (j+1)=((zaG 4 (expJ p j).1 p.nodes[j]).1,(expJ p j).2++(zaG 4 (expJ p j).1 p.nodes[j]).2):=zau (fun(q:(List Str×List En)×List Nod) n=>((zaG 4 q.1 n).1,q.2++(zaG 4 q.1 n).2)) _ h
def nS(p:Prog)(k:Nat):Nat:=((p.nodes.take k).map fun n=>staD 4 n.autos).sum
theorem zrd{p:Prog}{k:Nat}(h:k<p.nodes.length):nS p (k+1)=nS p k+staD 4 p.nodes[k].autos:=by
 unfold nS
 rw[qaA h,qal,qbB]
 rfl
def nCn(p:Prog)(k:Nat):Nat:=((p.nodes.take k).map fun n=>cntD 4 n.autos).sum
theorem nCn_next{p:Prog}{k:Nat}(h:k<p.nodes.length):nCn p (k+1)=nCn p k+cntD 4 p.nodes[k].autos:=by
 unfold nCn
 rw[qaA h,qal,qbB]
 rfl
structure EJ (p:Prog) (k:Nat):Prop where
 sub:zcg 100000000 p ⊆ (expJ p k).1.1
 es:∃E,(expJ p k).1.2=p.enums++E/\E.length=nCn p k
 len:(expJ p k).2.length=nS p k+k
theorem zjO{p:Prog}(h:OkP p):∀k,k≤p.nodes.length->EJ p k
 | 0,_=>⟨fun _ h=>h,⟨[],by simp[expJ],rfl⟩,rfl⟩
 | k+1,hk=>by
   obtain⟨i1,⟨E1,i2,i3⟩,i4⟩:=zjO h k (by omega)
   obtain⟨r1,⟨E2,r2,r3⟩,B,L,Q,r4,r5,_,_⟩:=zj8 4 (expJ p k).1 p.nodes[k] (zrl h (qad _))
   refine⟨?_,⟨E1++E2,?_,?_⟩,?_⟩
   ·rw[zdz p k (by omega)]
    exact fun m hm=>r1 (i1 hm)
   ·rw[zdz p k (by omega)]
    dsimp only
    rw[r2,i2,qa8]
   ·rw[qae,i3,r3,nCn_next (by omega)]
   ·rw[zdz p k (by omega)]
    dsimp only
    rw[qae,i4,r4,qae,r5,zrd (by omega)]
    simp only[qam,qaD]
    omega
theorem znV{p:Prog}:∀(d k:Nat),k+d≤p.nodes.length->(expJ p k).2 <+: (expJ p (k+d)).2
 | 0,k,_=>qb1 _
 | d+1,k,h=>by
   have h1:=znV (p:=p) d k (by omega)
   rw[show k+(d+1)=k+d+1 by omega,zdz p (k+d) (by omega)]
   exact h1.trans (qcq _ _)
theorem zrs{α:Type}{a b:List α}(h:a <+: b){i:Nat}(hi:i<a.length):b[i]?=a[i]? :=by
 obtain⟨t,rfl⟩:=h
 exact qaq hi
theorem zsh{p:Prog}(h:OkP p)(hs:(zb3 p).2=0):∃f:Nat->Nat,f 0=0/\∀k (hk:k<p.nodes.length),f k≤f (k+1)/\f (k+1)<(expF p).nodes.length/\
  (∀j,f k≤j->j<f (k+1)->∃x,(expF p).nodes[j]?=some x/\x.name≠p.nodes[k].name)/\∃L Q,(expF p).nodes[f (k+1)]?=some { p.nodes[k]with locals:=p.nodes[k].locals++L,eqs:=p.nodes[k].eqs++Q,autos:=[] }:=by
 have hN:(expF p).nodes=(expJ p p.nodes.length).2:=by rw[zqz]
 refine⟨fun k=>(expJ p k).2.length-1,rfl,fun k hk=>?_⟩
 have e0:=zjO h k (by omega)
 have e1:=zjO h (k+1) hk
 obtain⟨_,_,B,L,Q,r4,r5,r6,_⟩:=zj8 4 (expJ p k).1 p.nodes[k] (zrl h (qad _))
 have hst:=zdz p k hk
 have hp1:(expJ p (k+1)).2 <+: (expF p).nodes:=by
  have:=znV (p:=p) (p.nodes.length-(k+1)) (k+1) (by omega)
  rw[show k+1+(p.nodes.length-(k+1))=p.nodes.length by omega]at this
  rw[hN]
  exact this
 have h2:(expJ p (k+1)).2=(expJ p k).2++(B++[{ p.nodes[k]with locals:=p.nodes[k].locals++L,eqs:=p.nodes[k].eqs++Q,autos:=[] }]):=by rw[hst,<-r4]
 have hl2:(expJ p (k+1)).2.length=(expJ p k).2.length+B.length+1:=by rw[h2,qae,qae];rfl
 have hle:=hp1.length_le
 refine⟨by dsimp only;omega,by dsimp only;omega,fun j j1 j2=>?_,L,Q,?_⟩
 ·dsimp only at j1 j2
  rw[zrs hp1 (by omega),h2]
  by_cases hj:j<(expJ p k).2.length
  ·rw[qaq hj]
   rcases k with _|k
   ·exact absurd hj (qbC _)
   ·obtain⟨_,_,B',L',Q',q4,q5,_,_⟩:=zj8 4 (expJ p k).1 p.nodes[k] (zrl h (qad _))
    have hst':=zdz p k (by omega)
    have h2':(expJ p (k+1)).2=((expJ p k).2++B')++[{ p.nodes[k]with locals:=p.nodes[k].locals++L',eqs:=p.nodes[k].eqs++Q',autos:=[] }]:=by rw[hst',q4,qa8]
    have hl2':(expJ p (k+1)).2.length=((expJ p k).2++B').length+1:=by rw[h2',qae];rfl
    refine⟨{ p.nodes[k]with locals:=p.nodes[k].locals++L',eqs:=p.nodes[k].eqs++Q',autos:=[] },?_,?_⟩
    ·have hj2:j=((expJ p k).2++B').length:=by omega
     rw[h2',hj2,qax (qag _),qbH]
     rfl
    ·exact fun hn=>zrh hs k hk hn.symm
  ·rw[qax (by omega),qaq (by omega)]
   have hb:j-(expJ p k).2.length<B.length:=by omega
   refine⟨B[j-(expJ p k).2.length],qac hb,fun hn=>?_⟩
   have h3:=(r6 _ (qbO (qad hb))).1
   rw[hn]at h3
   exact h3 (e0.sub (zo9 h (qad _)))
 ·dsimp only
  have hidx:(expJ p (k+1)).2.length-1=(expJ p k).2.length+B.length:=by omega
  rw[hidx,zrs hp1 (by omega),h2,qax (by omega),qax (by omega),show(expJ p k).2.length+B.length-(expJ p k).2.length-B.length=0 by omega]
  rfl
theorem zsg{p:Prog}(h:OkP p):(expF p).nodes.length=p.nodes.length+nS p p.nodes.length/\(expF p).enums.length=p.enums.length+countP p.nodes:=by
 obtain⟨i1,⟨E,i2,i3⟩,i4⟩:=zjO h p.nodes.length (qag _)
 rw[zqz]
 refine⟨by dsimp only;omega,?_⟩
 dsimp only
 rw[i2,qae,i3]
 unfold nCn
 rw[qah,countP_eq]
 have:p.nodes.map (fun n=>cntD 4 n.autos)=p.nodes.map fun x=>zbq 100000001 x.autos:=qbN fun n hn=>(zpZ 4 100000001 _ (zrl h hn) (by decide)).symm
 rw[this]
end Go.Proofs.YtpnnpgbaiobbjaaGreatDoor
namespace Go.TL
open Go
section rules
variable {P:Program}{all:Array Oper}
abbrev StC (P:Program)(n:Nat)(K:TK)(all:Array Oper)(full:Env)(o:Oper)(v:SV)(H H':Heap):Prop:=∀env,TO false P n all [o] (zas full (slotsOf all o)++env) H (NKP K True (putE o.dst v (zas full (slotsOf all o)++env)) H')
def zoD(P:Program)(n:Nat)(K:TK)(a b c d:Nat)(all:Array Oper)(f1 f2:Env)(H0 HA HB H1 H2 C1 C2 F1 F2:Heap):Nat->List Oper->List SV->List SV->Prop
 | _,[],[],[]=>True
 | i,o::l,v::t,w::u=>
   (bif Nat.beq i a then StC P n K all f1 o v H0 HA/\StC P n K all f2 o w HB H2
   else bif Nat.beq i b then StC P n K all f1 o w H0 HB/\StC P n K all f1 o v HA H1
   else bif Nat.beq i c then StC P n K all f1 o v H1 C1/\StC P n K all f2 o w H2 C2
   else bif Nat.beq i d then StC P n K all f1 o v C1 F1/\StC P n K all f2 o w C2 F2
   else(v=w/\StC P n K all f1 o v H0 H0)/\StC P n K all f1 o v HA HA/\StC P n K all f2 o w HB HB/\StC P n K all f1 o v H1 H1/\StC P n K all f2 o w H2 H2/\StC P n K all f1 o v C1 C1/\StC P n K all f2 o w C2 C2)
   /\ zoD P n K a b c d all f1 f2 H0 HA HB H1 H2 C1 C2 F1 F2 (i+1) l t u
 | _,_,_,_=>False
theorem zoD.get{n:Nat}{K:TK}{a b c d:Nat}{f1 f2:Env}{H0 HA HB H1 H2 C1 C2 F1 F2:Heap}:∀ {l:List Oper} {t u:List SV} {k:Nat},zoD P n K a b c d all f1 f2 H0 HA HB H1 H2 C1 C2 F1 F2 k l t u->(l.length=t.length/\l.length=u.length)/\∀(i:Nat) o v w,l[i]?=some o->t[i]?=some v->u[i]?=some w->
  (bif Nat.beq (k+i) a then StC P n K all f1 o v H0 HA/\StC P n K all f2 o w HB H2
  else bif Nat.beq (k+i) b then StC P n K all f1 o w H0 HB/\StC P n K all f1 o v HA H1
  else bif Nat.beq (k+i) c then StC P n K all f1 o v H1 C1/\StC P n K all f2 o w H2 C2
  else bif Nat.beq (k+i) d then StC P n K all f1 o v C1 F1/\StC P n K all f2 o w C2 F2
  else(v=w/\StC P n K all f1 o v H0 H0)/\StC P n K all f1 o v HA HA/\StC P n K all f2 o w HB HB/\StC P n K all f1 o v H1 H1/\StC P n K all f2 o w H2 H2/\StC P n K all f1 o v C1 C1/\StC P n K all f2 o w C2 C2)
 | [],[],[],k,_=>by simp
 | o::l,v::t,w::u,k,h=>by
   simp only[zoD]at h
   obtain⟨h1,h2⟩:=h
   obtain⟨⟨g1,g3⟩,g2⟩:=zoD.get h2
   refine⟨⟨by simp[g1],by simp[g3]⟩,fun i o' v' w' ho hv hw=>?_⟩
   cases i with
   | zero=>
     simp at ho hv hw
     subst ho hv hw
     exact h1
   | succ i=>
     have:=g2 i o' v' w' (by simpa using ho) (by simpa using hv) (by simpa using hw)
     rw[show k+1+i=k+(i+1) by omega]at this
     exact this
 | [],_::_,_,_,h=>by cases h
 | [],[],_::_,_,h=>by cases h
 | _::_,[],_,_,h=>by cases h
 | _::_,_::_,[],_,h=>by cases h
def zvG(ops:Array Oper)(a b c d:Nat):Bool:=(cov ops 8 (zaI ops c)).contains a && (cov ops 8 (zaI ops c)).contains b && (List.range ops.size).all fun i=>Nat.beq i d || (cov ops 8 (zaI ops d)).contains i
theorem zc3{i a:Nat}(h:i≠a):Nat.beq i a=false:=by
 cases hb:Nat.beq i a with
 | false=>rfl
 | true=>exact absurd (qaT hb) h
theorem TR.zrt(a b c d:Nat){n:Nat}{env0 e1 e2:Env}{H0 HA HB H1 H2 C1 C2 F1 F2:Heap}{K:TK}{id':Nat}{l:List Oper}(t u:List SV)(hm:P.follows .mixedOrders=true)
  (hB:(mixB l.toArray [] && zvG l.toArray a b c d && Nat.blt a l.length && Nat.blt b l.length && Nat.blt c l.length && Nat.blt d l.length && !Nat.beq a b && !Nat.beq a c && !Nat.beq a d && !Nat.beq b c && !Nat.beq b d && !Nat.beq c d)=true)
  (hp:zoD P n K a b c d l.toArray (za9 l.toArray t env0) (za9 l.toArray u env0) H0 HA HB H1 H2 C1 C2 F1 F2 0 l t u)(hE1:zbx (za9 l.toArray t env0)=some e1)(hE2:zbx (za9 l.toArray u env0)=some e2)(hK1:K .normal e1 F1)(hK2:K .normal e2 F2):
  TR P n (.region id' l.toArray true) env0 H0 K:=by
 obtain⟨⟨g1,g3⟩,g2⟩:=hp.get
 simp only[qaz,qbX,qbo]at hB
 obtain⟨⟨⟨⟨⟨⟨⟨⟨⟨⟨⟨hB,hL⟩,hal⟩,hbl⟩,hcl0⟩,hdl⟩,hab⟩,hac⟩,had⟩,hbc⟩,hbd⟩,hcd⟩:=hB
 have ne:∀ {x y:Nat},Nat.beq x y=false->x≠y:=fun h e=>by rw[e,qbr]at h;cases h
 have ne_ab:=ne hab
 have ne_ac:=ne hac
 have ne_ad:=ne had
 have ne_bc:=ne hbc
 have ne_bd:=ne hbd
 have ne_cd:=ne hcd
 unfold zvG at hL
 simp only[qaz]at hL
 obtain⟨⟨hLa,hLb⟩,hL⟩:=hL
 have hLa':a∈cov l.toArray 8 (zaI l.toArray c):=by simpa using hLa
 have hLb':b∈cov l.toArray 8 (zaI l.toArray c):=by simpa using hLb
 have hLd:∀i,i<l.length->i≠d->i∈cov l.toArray 8 (zaI l.toArray d):=fun i hi n2=>by
  have:=qaB.1 hL i (by simpa using hi)
  rw[qbS]at this
  rcases this with h|h
  ·exact absurd (qaT h) n2
  ·simpa using h
 intro φ m ac h1 h2 h3 h4
 have s0:Step m ⟨m.A,m.β,m.H,{ m.w with drawn:=m.w.drawn+1 }⟩/\HRel ⟨m.A,m.β,m.H,{ m.w with drawn:=m.w.drawn+1 }⟩:=zcT h2 ⟨rfl,rfl,rfl,qag _,fun _ _=>rfl⟩
 refine zbp (wpIn_region_any hm ?_)
 let V:(Nat->Bool)×Bool->List SV:=fun s=>bif s.1 a then(bif s.1 b then(bif s.2 then u else t) else t) else(bif s.1 b then u else t)
 let S:(Nat->Bool)×Bool->Heap:=fun s=>bif s.1 d then(bif s.2 then F2 else F1) else bif s.1 c then(bif s.2 then C2 else C1) else bif s.1 a then(bif s.1 b then(bif s.2 then H2 else H1) else HA) else(bif s.1 b then HB else H0)
 have hSe:∀(f:Nat->Bool) (o x y z w:Bool),f d=x->f c=y->f a=z->f b=w->S (f,o)=bif x then(bif o then F2 else F1) else bif y then(bif o then C2 else C1) else bif z then(bif w then(bif o then H2 else H1) else HA) else(bif w then HB else H0):=fun f o x y z w h1 h2 h3 h4=>by subst h1 h2 h3 h4;rfl
 have hVe:∀(f:Nat->Bool) (o z w:Bool),f a=z->f b=w->V (f,o)=bif z then(bif w then(bif o then u else t) else t) else(bif w then u else t):=fun f o z w h3 h4=>by subst h3 h4;rfl
 have hrep:∀i:Nat,(Array.replicate l.toArray.size false).getD i false=false:=fun i=>by
  exact zwfd
 have hVl:∀s,(V s).length=l.toArray.size:=fun s=>by
  simp only[V]
  have hlt:l.toArray.size=l.length:=by simp
  rw[hlt]
  cases s.1 a <;> cases s.1 b <;> cases s.2 <;> first|exact g1.symm|exact g3.symm
 have hVeq:∀(i:Nat),i≠a->i≠b->i≠c->i≠d->t[i]?=u[i]? :=fun i n1 n2 n3 n4=>by
  by_cases hi:i<l.length
  ·have ho:l[i]?=some (l[i]'hi):=qac _
   have ht:t[i]?=some (t[i]'(by omega)):=qac _
   have hu:u[i]?=some (u[i]'(by omega)):=qac _
   have:=g2 i _ _ _ ho ht hu
   rw[qaO,zc3 n1,zc3 n2,zc3 n3,zc3 n4]at this
   rw[ht,hu,this.1.1]
  ·rw[qbA (by omega),qbA (by omega)]
 refine znz [] (env0:=env0) (σ:=(Nat->Bool)×Bool) (fun s=>s.1) S V (G:=fun _=>True) (m0:=m) (fun t ht=>by cases ht) hB hVl (fun s i o ho hdi hcv hcl=>?_) (fun s hs _=>?_) l.toArray.size (Array.replicate l.toArray.size false)
  ⟨m.A,m.β,m.H,{ m.w with drawn:=m.w.drawn+1 }⟩ ac (fun i=>(Array.replicate l.toArray.size false).getD i false,false) (by simp) ?_ ?_ (fun _=>rfl) ?_ (fun j h=>?_) s0.1 s0.2 ?_ (h4.step h2 s0.1)
 ·obtain⟨s,od⟩:=s
  dsimp only at hdi hcv hcl⊢
  have hil:i<l.length:=by have:=(qak.1 ho).1;simpa using this
  have hol:l[i]?=some o:=by simpa using ho
  have htl:t[i]?=some (t[i]'(by omega)):=qac (by omega)
  have hul:u[i]?=some (u[i]'(by omega)):=qac (by omega)
  generalize t[i]'(by omega)=v at htl
  generalize u[i]'(by omega)=w at hul
  have hg:=g2 i o v w hol htl hul
  rw[qaO]at hg
  have hi':∀j,j≠i->(s j || decide (i=j))=s j:=fun j hj=>by simp[Ne.symm hj]
  have hii:(s i || decide (i=i))=true:=by simp
  have nod:i≠d->s d=false:=fun hne=>by
   cases h:s d with
   | false=>rfl
   | true=>
     have:=hcl d h i (hLd i hil hne)
     rw[hdi]at this
     cases this
  have noc:i=a\/i=b->s c=false:=fun hne=>by
   cases h:s c with
   | false=>rfl
   | true=>
     rcases hne with hne|hne
     ·have:=hcl c h a hLa'
      rw[<-hne,hdi]at this
      cases this
     ·have:=hcl c h b hLb'
      rw[<-hne,hdi]at this
      cases this
  by_cases e4:i=d
  ·subst e4
   have ha:=hcv a (hLd a hal ne_ad)
   have hb:=hcv b (hLd b hbl ne_bd)
   have hc:=hcv c (hLd c hcl0 ne_cd)
   rw[zc3 ne_ad.symm,zc3 ne_bd.symm,zc3 ne_cd.symm,qbr]at hg
   have hV:=hVe s od true true ha hb
   have hV':=hVe (fun j=>s j || decide (i=j)) od true true ((hi' a ne_ad).trans ha) ((hi' b ne_bd).trans hb)
   have hS:=hSe s od false true true true hdi hc ha hb
   have hS':=hSe (fun j=>s j || decide (i=j)) od true _ _ _ hii rfl rfl rfl
   exact zwy
  by_cases e3:i=c
  ·subst e3
   have ha:=hcv a hLa'
   have hb:=hcv b hLb'
   have hd:=nod e4
   rw[zc3 ne_ac.symm,zc3 ne_bc.symm,qbr]at hg
   have hV:=hVe s od true true ha hb
   have hV':=hVe (fun j=>s j || decide (i=j)) od true true ((hi' a ne_ac).trans ha) ((hi' b ne_bc).trans hb)
   have hS:=hSe s od false false true true hd hdi ha hb
   have hS':=hSe (fun j=>s j || decide (i=j)) od false true _ _ ((hi' d ne_cd.symm).trans hd) hii rfl rfl
   exact zwy
  have hd:=nod e4
  by_cases e1:i=a
  ·subst e1
   have hc:=noc (.inl rfl)
   rw[qbr]at hg
   cases hb:s b with
   | false=>
     have hV:=hVe s od false false hdi hb
     have hV':=hVe (fun j=>s j || decide (i=j)) od true false hii ((hi' b ne_ab.symm).trans hb)
     have hS:=hSe s od false false false false hd hc hdi hb
     have hS':=hSe (fun j=>s j || decide (i=j)) od false false true false ((hi' d ne_ad.symm).trans hd) ((hi' c ne_ac.symm).trans hc) hii ((hi' b ne_ab.symm).trans hb)
     exact⟨(fun j=>s j || decide (i=j),od),v,fun j=>rfl,fun j _=>by rw[hV,hV'];rfl,by rw[hV'];exact htl,by rw[hV,hS,hS'];exact hg.1⟩
   | true=>
     have hV:=hVe s od false true hdi hb
     have hV':=hVe (fun j=>s j || decide (i=j)) true true true hii ((hi' b ne_ab.symm).trans hb)
     have hS:=hSe s od false false false true hd hc hdi hb
     have hS':=hSe (fun j=>s j || decide (i=j)) true false false true true ((hi' d ne_ad.symm).trans hd) ((hi' c ne_ac.symm).trans hc) hii ((hi' b ne_ab.symm).trans hb)
     exact⟨(fun j=>s j || decide (i=j),true),w,fun j=>rfl,fun j _=>by rw[hV,hV'];rfl,by rw[hV'];exact hul,by rw[hV,hS,hS'];exact hg.2⟩
  by_cases e2:i=b
  ·subst e2
   have hc:=noc (.inr rfl)
   rw[zc3 ne_ab.symm,qbr]at hg
   cases ha:s a with
   | false=>
     have hV:=hVe s od false false ha hdi
     have hV':=hVe (fun j=>s j || decide (i=j)) od false true ((hi' a ne_ab).trans ha) hii
     have hS:=hSe s od false false false false hd hc ha hdi
     have hS':=hSe (fun j=>s j || decide (i=j)) od false false false true ((hi' d ne_bd.symm).trans hd) ((hi' c ne_bc.symm).trans hc) ((hi' a ne_ab).trans ha) hii
     refine⟨(fun j=>s j || decide (i=j),od),w,fun j=>rfl,fun j hj=>?_,by rw[hV'];exact hul,by rw[hV,hS,hS'];exact hg.1⟩
     rw[hV,hV']
     exact(hVeq j (fun e=>by rw[e,ha]at hj;cases hj) (fun e=>by rw[e,hdi]at hj;cases hj) (fun e=>by rw[e,hc]at hj;cases hj) (fun e=>by rw[e,hd]at hj;cases hj)).symm
   | true=>
     have hV:=hVe s od true false ha hdi
     have hV':=hVe (fun j=>s j || decide (i=j)) false true true ((hi' a ne_ab).trans ha) hii
     have hS:=hSe s od false false true false hd hc ha hdi
     have hS':=hSe (fun j=>s j || decide (i=j)) false false false true true ((hi' d ne_bd.symm).trans hd) ((hi' c ne_bc.symm).trans hc) ((hi' a ne_ab).trans ha) hii
     exact⟨(fun j=>s j || decide (i=j),false),v,fun j=>rfl,fun j _=>by rw[hV,hV'];rfl,by rw[hV'];exact htl,by rw[hV,hS,hS'];exact hg.2⟩
  rw[zc3 e1,zc3 e2,zc3 e3,zc3 e4]at hg
  obtain⟨⟨hvw,q1⟩,q2,q3,q4,q5,q6,q7⟩:=hg
  subst hvw
  have hV':=hVe (fun j=>s j || decide (i=j)) od (s a) (s b) (hi' a (Ne.symm e1)) (hi' b (Ne.symm e2))
  have hV:=hVe s od _ _ rfl rfl
  have hS:=hSe s od false (s c) _ _ hd rfl rfl rfl
  have hS':=hSe (fun j=>s j || decide (i=j)) od false (s c) (s a) (s b) ((hi' d (Ne.symm e4)).trans hd) (hi' c (Ne.symm e3)) (hi' a (Ne.symm e1)) (hi' b (Ne.symm e2))
  refine⟨(fun j=>s j || decide (i=j),od),v,fun j=>rfl,fun j _=>by rw[hV,hV'],?_,?_⟩
  ·rw[hV']
   cases s a <;> cases s b <;> cases od <;> first|exact htl|exact hul
  ·rw[hV,hS,hS']
   cases hc:s c with
   | true=>
     have ha:=hcl c hc a hLa'
     have hb:=hcl c hc b hLb'
     rw[ha,hb]
     cases od
     ·exact q6
     ·exact q7
   | false=>
     cases s a <;> cases s b <;> cases od
     ·exact q1
     ·exact q1
     ·exact q3
     ·exact q3
     ·exact q2
     ·exact q2
     ·exact q4
     ·exact q5
 ·obtain⟨s,od⟩:=s
  dsimp only at hs⊢
  have ha:=hs a (by simpa using hal)
  have hb:=hs b (by simpa using hbl)
  have hd:=hs d (by simpa using hdl)
  rw[hVe s od true true ha hb,hSe s od true _ _ _ hd rfl rfl rfl]
  cases od
  ·show K .normal (za9 l.toArray t env0) F1
   rw[<-zaV hE1]
   exact hK1
  ·show K .normal (za9 l.toArray u env0) F2
   rw[<-zaV hE2]
   exact hK2
 ·exact zwfe
 ·exact zwci
 ·simp only[S,hrep,cond_false]
  exact h1
 ·rw[qaN]at h
  split at h <;> cases h
 ·have:∀y:List SV,envA l.toArray y (fun i=>(Array.replicate l.toArray.size false).getD i false) (List.range l.toArray.size)=[]:=by
   intro y
   have:∀x:List Nat,envA l.toArray y (fun i=>(Array.replicate l.toArray.size false).getD i false) x=[]:=by
    exact zwdu
   exact this _
  rw[this,qa1]
  exact h3.step h2 s0.1
end rules
end Go.TL
