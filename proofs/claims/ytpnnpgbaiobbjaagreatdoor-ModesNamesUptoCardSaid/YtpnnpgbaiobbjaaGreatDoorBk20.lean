import Derived.Test.YtpnnpgbaiobbjaaGreatDoorBk18
set_option linter.all false
namespace Go.TL
open Go
section rules
variable {P:Program}{n:Nat}{env:Env}{H:Heap}{K:TK}{tab:Tab}{q:Bool}{all:Array Oper}{rest:List Oper}{d:Nat}{ty:TypeId}{pos:String}{aft:Array Edge}
theorem TO.zuD{ops:List Oper}{v v':SV}(hl:Le v v')(k:TO q P n all ops ((d,v')::env) H K):TO q P n all ops ((d,v)::env) H K:=by
 intro φ m a h1 h2 h3 h4
 refine k φ m a h1 h2 ⟨h3.1,fun j w hw=>?_⟩ h4
 by_cases hj:d=j
 ·subst hj
  rw[Env.zan]at hw
  cases hw
  obtain⟨x,x1,x2⟩:=h3.2 d v (Env.zan ..)
  exact⟨x,x1,hl m x x2⟩
 ·rw[Env.zak _ _ hj]at hw
  exact h3.2 j w (by rw[Env.zak _ _ hj];exact hw)
theorem TO.zn5(hT:zaC P tab){t:TypeId}{i:TyI}{fs:List (Nat×TypeId)}{fz:List (Nat×Nat)}{parts:Array (Nat×Operand)}{ps:List (Nat×SV)}{cs:List SV}{ts:List T}{v':SV}(hd:Nat.ble (d+1) n=true)
  (ht:tab.get t=some i)(hk:i.k= .struct fs)(hz:sizes tab fs=some fz)(hp:env.parts parts.toList=some ps)(hc:zfG fz (i.zero.map .t) ps=some cs)(hts:allT cs=some ts)(hl:Le (.t (.ag ts)) v')
  (k:TO q P n all rest ((d,v')::env) H K):TO q P n all (⟨some d,.build t parts,ty,pos,aft,none⟩::rest) env H K:=
 TO.zn6 hT hd ht hk hz hp hc hts (TO.zuD hl k)
end rules
theorem zlO{α:Type}:∀(l:List Nat) (G bs x:List α),l.length≤bs.length->patch G l (bs++x)=patch G l bs++x
 | [],G,bs,x,_=>by simp[patch]
 | a::l,G,[],x,h=>by simp at h
 | a::l,G,b::bs,x,h=>by
   rw[qbs,patch,patch,zlO l _ bs x (by simpa using h)]
section rules
variable {P:Program}{n:Nat}{env:Env}{H:Heap}{K:TK}{all:Array Oper}{rest:List Oper}
variable {d:Nat}{ty:TypeId}{pos:String}{aft:Array Edge}
theorem TO.zp0(N:Nat){Hc Hc1 H':Heap}{cargs:List SV}{sz m:Nat}{es:List T}{f:Operand}{fid:FuncId}{caps:List SV}{args:Array Operand}{ts:Array TypeId}{vs:List SV}
  (hs:Sound P fid cargs Hc fun r H'=>r= .ret (.sl sz es N)/\H'=Hc1++[.tail m])(hd:Nat.ble (d+1) n=true)(hf:env.val f=some (.fn fid caps))(ha:env.vals args.toList=some vs)(hl:Les (vs++caps) cargs)
  (hN:Nat.ble N H.length=true)(hc:H.take N=Hc)(hu:unders N cargs=true)(hb:zac N Hc=true)(h1:Hc1.length=N)(h2:zac N Hc1=true)
  (hH:zbv (Hc1++H.drop N++[.tail m])=some H')(k:TO false P n all rest ((d,.sl sz es H.length)::env) H' K):
  TO false P n all (⟨some d,.call { callee:=.value f,args:=args,argTypes:=ts },ty,pos,aft,none⟩::rest) env H K:=by
 have hN':=qai hN
 have hr:∀j,j<N->names (List.range N) H.length j=j:=fun j hj=>zd6 hj
 have hlen:Hc.length=N:=by rw[<-hc];simp;omega
 refine TO.call (List.range N) hs hd hf ha (by rw[zbs hr _ hu];exact hl) (by rw[hlen];exact hu) (zd1 hN' hc hb) (fun v Hc' h=>?_) (fun v Hc' h=>?_)
 ·obtain⟨g1,rfl⟩:=h
  cases g1
  rw[qal,zfq hr Hc1 h2,zlO _ _ _ _ (by simp;omega),zd8 h1 hN']
  have hn:names (List.range N) H.length N=H.length:=by rw[zfW (by simp)];simp
  simp only[SV.ren,qaj,qaw,Blk.ren,hn]
  rw[<-zaV hH]
  exact k
 ·cases h.1
theorem TO.zjU(N:Nat){Hc Hc1 H':Heap}{cargs:List SV}{sz m:Nat}{es:List T}{f:Operand}{fid:FuncId}{caps:List SV}{args:Array Operand}{ts:Array TypeId}{vs:List SV}
  (hs:Sound P fid cargs Hc fun r H'=>r= .ret (.sl sz es N)/\H'=Hc1++[.tail m])(hd:Nat.ble (d+1) n=true)(hf:env.val f=some (.fn fid caps))(ha:env.vals args.toList=some vs)(hl:Les (vs++caps) cargs)
  (hN:Nat.ble N H.length=true)(hc:H.take N=Hc)(hu:unders N cargs=true)(hb:zac N Hc=true)(h1:Hc1.length=N)(h2:zac N Hc1=true)
  (hH:zbv (Hc1++H.drop N++[.tail m])=some H')(k:TO false P n all rest ((d,.t (.sl sz es))::env) H' K):
  TO false P n all (⟨some d,.call { callee:=.value f,args:=args,argTypes:=ts },ty,pos,aft,none⟩::rest) env H K:=
 TO.zp0 N hs hd hf ha hl hN hc hu hb h1 h2 hH (TO.zuD (Le.own _ _ _) k)
end rules
end Go.TL
namespace Go.Proofs.YtpnnpgbaiobbjaaGreatDoor
open Go Go.TL
attribute [local irreducible] TR TO Then zap RetK Sound zab Kf GG za3
def mapN{σ α β:Type}(f:Nat->σ->α->σ×β):Nat->σ->List α->σ×List β
 | _,s,[]=>(s,[])
 | i,s,x::l=>((mapN f (i+1) (f i s x).1 l).1,(f i s x).2::(mapN f (i+1) (f i s x).1 l).2)
theorem zop{σ α β:Type}(f:Nat->σ->α->σ×β):∀(l k:List α) (i:Nat) (s:σ),mapN f i s (l++k)=((mapN f (i+l.length) (mapN f i s l).1 k).1,(mapN f i s l).2++(mapN f (i+l.length) (mapN f i s l).1 k).2)
 | [],k,i,s=>rfl
 | x::l,k,i,s=>by
   rw[qbs]
   simp only[mapN]
   rw[zop f l k,qam,show i+1+l.length=i+(l.length+1) by omega]
   rfl
theorem zc1{σ α β:Type}(f:Nat->σ->α->σ×β)(s:σ){l:List α}{j:Nat}(h:j<l.length):mapN f 0 s (l.take (j+1))=((f j (mapN f 0 s (l.take j)).1 l[j]).1,(mapN f 0 s (l.take j)).2++[(f j (mapN f 0 s (l.take j)).1 l[j]).2]):=by
 rw[zb8 h,zop]
 have e:0+(l.take j).length=j:=by rw[qaU];omega
 rw[e]
 rfl
theorem zcl{σ α β:Type}(f:Nat->σ->α->σ×β):∀(l:List α) (i:Nat) (s:σ),(mapN f i s l).2.length=l.length
 | [],_,_=>rfl
 | x::l,i,s=>by unfold mapN;simp only[qam];rw[zcl f l]
theorem zck{σ α β:Type}{f:Nat->σ->α->σ×β}{I:Nat->σ->Prop}{l:List α}(h:∀i s x,l[i]?=some x->I i s->I (i+1) (f i s x).1){s:σ}(h0:I 0 s):∀(j:Nat),j≤l.length->I j (mapN f 0 s (l.take j)).1
 | 0,_=>h0
 | j+1,hj=>by
   rw[zc1 f s hj]
   exact h j _ _ (qac hj) (zck h h0 j (by omega))
theorem zgX{H:Heap}{b:Blk}{N:Nat}(h:H.length=N):Nat.ble N (H++[b]).length=true:=by simp[h,Nat.ble_eq]
theorem zey{H:Heap}{b:Blk}{N:Nat}(h:H.length=N):(H++[b]).take N=H:=by subst h;simp
theorem zdi{H H1:Heap}{b:Blk}{N:Nat}(h:H.length=N):zbv (H1++(H++[b]).drop N)=some (H1++[b]):=by subst h;rw[zbc];simp
theorem zvB{H:Heap}{b:Blk}{N:Nat}(h:H.length=N):(H++[b])[N]?=some b:=by subst h;simp
theorem zvC{H:Heap}{b c:Blk}{N:Nat}(h:H.length=N):(H++[b]).set N c=H++[c]:=by subst h;simp
theorem zeI(k:Nat)(x:T):(SV.t x).under k=true:=rfl
mutual
theorem zgx {k k':Nat} (h:k≤k'):∀s:SV,s.under k=true->s.under k'=true
 | .t _,_| .cp _ _,_| .any,_=>rfl
 | .sl _ _ id,hs| .ms _ id _ _,hs| .ref id _,hs| .tref _ _ id _,hs| .rw id _,hs| .mp id,hs| .yl id,hs=>by
   simp only[SV.under,qbo]at hs⊢
   omega
 | .ag cs,hs| .tup cs,hs| .fn _ cs,hs| .bnd _ cs,hs=>by
   simp only[SV.under]at hs⊢
   exact zfk h cs hs
 | .ifc _ x,hs=>by
   simp only[SV.under]at hs⊢
   exact zgx h x hs
theorem zfk {k k':Nat} (h:k≤k'):∀l:List SV,unders k l=true->unders k' l=true
 | [],_=>rfl
 | x::l,hs=>by
   simp only[unders,qay]at hs⊢
   exact⟨zgx h x hs.1,zfk h l hs.2⟩
end
theorem zjT{k k':Nat}(h:k≤k'):∀b:Blk,b.under k=true->b.under k'=true
 | .cells cs,hs=>zfk h cs hs
 | .tail _,_| .row _ _,_| .map _ _ _,_| .dead,_=>rfl
 | .loop _ _ _ _ env _ _ _,hs=>by
   simp only[Blk.under,qaz]at hs⊢
   exact fun x hx=>zgx h _ (hs x hx)
theorem ze3{k k':Nat}(h:k≤k'):∀ {H:Heap},zac k H=true->zac k' H=true
 | [],_=>rfl
 | b::H,hs=>by
   simp only[zac,qay]at hs⊢
   exact⟨zjT h b hs.1,ze3 h hs.2⟩
theorem wkaM{G Q:Prop}(k:Q)(h:Hold Q->G:=by
  (intro k;apply TO.zpP zag;(iterate 9 exact rfl);exact leB;exact k.p)):G:=h ⟨k⟩
abbrev chT (c:Ex×Ex):T:=.ag (exC c.1++exC c.2)
set_option maxHeartbeats 4000000 in
theorem znh {σ:Type} (Hs:σ->Heap) (N:Nat) (hN:∀s,(Hs s).length=N) (hu:∀s,zac N (Hs s)=true) (fid:FuncId) (caps:List SV) (hcu:unders N caps=true) (g:Nat->σ->Tran->σ×(Str)) (I:Nat->σ->Prop) (l:List Tran) (hl:l.length≤1000000000)
  (hc:∀(i:Nat) (s:σ) (x:Tran),l[i]?=some x->I i s->Sound Tryz.prog fid (.i (i:Int):: .t (zah x)::caps) (Hs s) (fun r H'=>r= .ret (.t (T.s (g i s x).2))/\H'=Hs (g i s x).1))
  (hI:∀i s x,l[i]?=some x->I i s->I (i+1) (g i s x).1) (s0:σ) (h0:I 0 s0):
  Sound Tryz.prog 176 [.t (.sl 8 (l.map zah)),.fn fid caps] (Hs s0) (fun r H'=>r= .ret (.sl 1 ((mapN g 0 s0 l).2.map T.s) N)/\H'=Hs (mapN g 0 s0 l).1++[.tail l.length]):=by
 have hml:(l.map zah).length=l.length:=qaa _
 have hinv:=zck (f:=g) (l:=l) hI h0
 have hlen:=fun k=>zcl g k 0 s0
 refine so Tryz.func176 ?_
 repeat' (first|refine wkt ?_|fail)
 refine TR.tail 1 5 rfl ?_
 rw[hN s0]
 refine TR.zal l.length (fun _=>True) (fun j=>[(1,.fn fid caps),(5,.sl 1 ((mapN g 0 s0 (l.take j)).2.map T.s) N),(8,.t (.sl 8 (l.map zah))),(9,.i l.length),(10,.i j)]) (fun j=>Hs (mapN g 0 s0 (l.take j)).1++[.tail (l.take j).length]) trivial (fun j hlt _=>?_) (fun _=>?_) ⟨rfl,rfl,rfl,by rw[<-hml];rfl,rfl,trivial⟩ rfl
 ·have hx:=zao zah hlt
  have hn:=zc1 g s0 hlt
  have hat:l[j]?=some l[j]:=qac hlt
  have hi:=hinv j (qbr hlt)
  have hol:=hlen (l.take j)
  rw[<-hol]
  have hol2:=hlen (l.take (j+1))
  rw[hn]at hol2
  generalize mapN g 0 s0 (l.take j)=so at*
  obtain⟨s,o⟩:=so
  dsimp only at*
  have hcj:=hc j s l[j] hat hi
  clear hc hI hinv hat
  generalize g j s l[j]=gx at*
  obtain⟨s',y⟩:=gx
  dsimp only at*
  have hob:o.length≤1000000000:=by rw[hol,qaU];omega
  have hom:(o.map T.s).length=o.length:=qaa _
  exact zwe
 ·exact zwj
set_option maxHeartbeats 4000000 in
theorem zib {σ:Type} (Hs:σ->Heap) (N:Nat) (hN:∀s,(Hs s).length=N) (hu:∀s,zac N (Hs s)=true) (fid:FuncId) (caps:List SV) (hcu:unders N caps=true) (g:Nat->σ->Decl->σ×(Str)) (I:Nat->σ->Prop) (l:List Decl) (hl:l.length≤1000000000)
  (hc:∀(i:Nat) (s:σ) (x:Decl),l[i]?=some x->I i s->Sound Tryz.prog fid (.i (i:Int):: .t (zaa x)::caps) (Hs s) (fun r H'=>r= .ret (.t (T.s (g i s x).2))/\H'=Hs (g i s x).1))
  (hI:∀i s x,l[i]?=some x->I i s->I (i+1) (g i s x).1) (s0:σ) (h0:I 0 s0):
  Sound Tryz.prog 187 [.t (.sl 3 (l.map zaa)),.fn fid caps] (Hs s0) (fun r H'=>r= .ret (.sl 1 ((mapN g 0 s0 l).2.map T.s) N)/\H'=Hs (mapN g 0 s0 l).1++[.tail l.length]):=by
 have hml:(l.map zaa).length=l.length:=qaa _
 have hinv:=zck (f:=g) (l:=l) hI h0
 have hlen:=fun k=>zcl g k 0 s0
 refine so Tryz.func187 ?_
 repeat' (first|refine wkt ?_|fail)
 refine TR.tail 1 5 rfl ?_
 rw[hN s0]
 refine TR.zal l.length (fun _=>True) (fun j=>[(1,.fn fid caps),(5,.sl 1 ((mapN g 0 s0 (l.take j)).2.map T.s) N),(8,.t (.sl 3 (l.map zaa))),(9,.i l.length),(10,.i j)]) (fun j=>Hs (mapN g 0 s0 (l.take j)).1++[.tail (l.take j).length]) trivial (fun j hlt _=>?_) (fun _=>?_) ⟨rfl,rfl,rfl,by rw[<-hml];rfl,rfl,trivial⟩ rfl
 ·have hx:=zao zaa hlt
  have hn:=zc1 g s0 hlt
  have hat:l[j]?=some l[j]:=qac hlt
  have hi:=hinv j (qbr hlt)
  have hol:=hlen (l.take j)
  rw[<-hol]
  have hol2:=hlen (l.take (j+1))
  rw[hn]at hol2
  generalize mapN g 0 s0 (l.take j)=so at*
  obtain⟨s,o⟩:=so
  dsimp only at*
  have hcj:=hc j s l[j] hat hi
  clear hc hI hinv hat
  generalize g j s l[j]=gx at*
  obtain⟨s',y⟩:=gx
  dsimp only at*
  have hob:o.length≤1000000000:=by rw[hol,qaU];omega
  have hom:(o.map T.s).length=o.length:=qaa _
  exact zwf
 ·exact zwj
set_option maxHeartbeats 4000000 in
theorem zng {σ:Type} (Hs:σ->Heap) (N:Nat) (hN:∀s,(Hs s).length=N) (hu:∀s,zac N (Hs s)=true) (fid:FuncId) (caps:List SV) (hcu:unders N caps=true) (g:Nat->σ->Sta->σ×(Ex)) (I:Nat->σ->Prop) (l:List Sta) (hl:l.length≤1000000000)
  (hc:∀(i:Nat) (s:σ) (x:Sta),l[i]?=some x->I i s->Sound Tryz.prog fid (.i (i:Int):: .t (staT x)::caps) (Hs s) (fun r H'=>r= .ret (.t (exT (g i s x).2))/\H'=Hs (g i s x).1))
  (hI:∀i s x,l[i]?=some x->I i s->I (i+1) (g i s x).1) (s0:σ) (h0:I 0 s0):
  Sound Tryz.prog 249 [.t (.sl 6 (l.map staT)),.fn fid caps] (Hs s0) (fun r H'=>r= .ret (.sl 6 ((mapN g 0 s0 l).2.map exT) N)/\H'=Hs (mapN g 0 s0 l).1++[.tail l.length]):=by
 have hml:(l.map staT).length=l.length:=qaa _
 have hinv:=zck (f:=g) (l:=l) hI h0
 have hlen:=fun k=>zcl g k 0 s0
 refine so Tryz.func249 ?_
 repeat' (first|refine wkt ?_|fail)
 refine TR.tail 6 5 rfl ?_
 rw[hN s0]
 refine TR.zal l.length (fun _=>True) (fun j=>[(1,.fn fid caps),(5,.sl 6 ((mapN g 0 s0 (l.take j)).2.map exT) N),(8,.t (.sl 6 (l.map staT))),(9,.i l.length),(10,.i j)]) (fun j=>Hs (mapN g 0 s0 (l.take j)).1++[.tail (l.take j).length]) trivial (fun j hlt _=>?_) (fun _=>?_) ⟨rfl,rfl,rfl,by rw[<-hml];rfl,rfl,trivial⟩ rfl
 ·have hx:=zao staT hlt
  have hn:=zc1 g s0 hlt
  have hat:l[j]?=some l[j]:=qac hlt
  have hi:=hinv j (qbr hlt)
  have hol:=hlen (l.take j)
  rw[<-hol]
  have hol2:=hlen (l.take (j+1))
  rw[hn]at hol2
  generalize mapN g 0 s0 (l.take j)=so at*
  obtain⟨s,o⟩:=so
  dsimp only at*
  have hcj:=hc j s l[j] hat hi
  clear hc hI hinv hat
  generalize g j s l[j]=gx at*
  obtain⟨s',y⟩:=gx
  dsimp only at*
  have hob:o.length≤1000000000:=by rw[hol,qaU];omega
  have hom:(o.map exT).length=o.length:=qaa _
  rw[<-hom]
  rw[zay]at hcj
  rw[za8]at hx hcj
  repeat' (first|refine wkt ?_|refine wkaM ?_|refine zqq ?_|(apply TO.zaD N hcj;(iterate 3 exact rfl);exact Les.refl _;exact zgX (hN s);exact zey (hN s);exact hcu;exact hu s;exact zeI N _;exact hN s';exact hu s';exact zdi (hN s))|refine zqc ?_|refine zab.exit ?_|exact wkc|intro hc|refine wk2 ?_ ?_|refine wk ?_|fail)
  exact zwbj
 ·exact zwj
set_option maxHeartbeats 4000000 in
theorem zid {σ:Type} (Hs:σ->Heap) (N:Nat) (hN:∀s,(Hs s).length=N) (hu:∀s,zac N (Hs s)=true) (fid:FuncId) (caps:List SV) (hcu:unders N caps=true) (g:Nat->σ->Tran->σ×(Ex×Ex)) (I:Nat->σ->Prop) (l:List Tran) (hl:l.length≤1000000000)
  (hc:∀(i:Nat) (s:σ) (x:Tran),l[i]?=some x->I i s->Sound Tryz.prog fid (.i (i:Int):: .t (zah x)::caps) (Hs s) (fun r H'=>r= .ret (.t (chT (g i s x).2))/\H'=Hs (g i s x).1))
  (hI:∀i s x,l[i]?=some x->I i s->I (i+1) (g i s x).1) (s0:σ) (h0:I 0 s0):
  Sound Tryz.prog 250 [.t (.sl 8 (l.map zah)),.fn fid caps] (Hs s0) (fun r H'=>r= .ret (.sl 12 ((mapN g 0 s0 l).2.map chT) N)/\H'=Hs (mapN g 0 s0 l).1++[.tail l.length]):=by
 have hml:(l.map zah).length=l.length:=qaa _
 have hinv:=zck (f:=g) (l:=l) hI h0
 have hlen:=fun k=>zcl g k 0 s0
 refine so Tryz.func250 ?_
 repeat' (first|refine wkt ?_|fail)
 refine TR.tail 12 5 rfl ?_
 rw[hN s0]
 refine TR.zal l.length (fun _=>True) (fun j=>[(1,.fn fid caps),(5,.sl 12 ((mapN g 0 s0 (l.take j)).2.map chT) N),(8,.t (.sl 8 (l.map zah))),(9,.i l.length),(10,.i j)]) (fun j=>Hs (mapN g 0 s0 (l.take j)).1++[.tail (l.take j).length]) trivial (fun j hlt _=>?_) (fun _=>?_) ⟨rfl,rfl,rfl,by rw[<-hml];rfl,rfl,trivial⟩ rfl
 ·have hx:=zao zah hlt
  have hn:=zc1 g s0 hlt
  have hat:l[j]?=some l[j]:=qac hlt
  have hi:=hinv j (qbr hlt)
  have hol:=hlen (l.take j)
  rw[<-hol]
  have hol2:=hlen (l.take (j+1))
  rw[hn]at hol2
  generalize mapN g 0 s0 (l.take j)=so at*
  obtain⟨s,o⟩:=so
  dsimp only at*
  have hcj:=hc j s l[j] hat hi
  clear hc hI hinv hat
  generalize g j s l[j]=gx at*
  obtain⟨s',y⟩:=gx
  dsimp only at*
  have hob:o.length≤1000000000:=by rw[hol,qaU];omega
  have hom:(o.map chT).length=o.length:=qaa _
  exact zwe
 ·exact zwj
set_option maxHeartbeats 4000000 in
theorem znc {σ:Type} (Hs:σ->Heap) (N:Nat) (hN:∀s,(Hs s).length=N) (hu:∀s,zac N (Hs s)=true) (fid:FuncId) (caps:List SV) (hcu:unders N caps=true) (g:Nat->σ->Decl->σ×(Ex)) (I:Nat->σ->Prop) (l:List Decl) (hl:l.length≤1000000000)
  (hc:∀(i:Nat) (s:σ) (x:Decl),l[i]?=some x->I i s->Sound Tryz.prog fid (.i (i:Int):: .t (zaa x)::caps) (Hs s) (fun r H'=>r= .ret (.t (exT (g i s x).2))/\H'=Hs (g i s x).1))
  (hI:∀i s x,l[i]?=some x->I i s->I (i+1) (g i s x).1) (s0:σ) (h0:I 0 s0):
  Sound Tryz.prog 197 [.t (.sl 3 (l.map zaa)),.fn fid caps] (Hs s0) (fun r H'=>r= .ret (.sl 6 ((mapN g 0 s0 l).2.map exT) N)/\H'=Hs (mapN g 0 s0 l).1++[.tail l.length]):=by
 have hml:(l.map zaa).length=l.length:=qaa _
 have hinv:=zck (f:=g) (l:=l) hI h0
 have hlen:=fun k=>zcl g k 0 s0
 refine so Tryz.func197 ?_
 repeat' (first|refine wkt ?_|fail)
 refine TR.tail 6 5 rfl ?_
 rw[hN s0]
 refine TR.zal l.length (fun _=>True) (fun j=>[(1,.fn fid caps),(5,.sl 6 ((mapN g 0 s0 (l.take j)).2.map exT) N),(8,.t (.sl 3 (l.map zaa))),(9,.i l.length),(10,.i j)]) (fun j=>Hs (mapN g 0 s0 (l.take j)).1++[.tail (l.take j).length]) trivial (fun j hlt _=>?_) (fun _=>?_) ⟨rfl,rfl,rfl,by rw[<-hml];rfl,rfl,trivial⟩ rfl
 ·have hx:=zao zaa hlt
  have hn:=zc1 g s0 hlt
  have hat:l[j]?=some l[j]:=qac hlt
  have hi:=hinv j (qbr hlt)
  have hol:=hlen (l.take j)
  rw[<-hol]
  have hol2:=hlen (l.take (j+1))
  rw[hn]at hol2
  generalize mapN g 0 s0 (l.take j)=so at*
  obtain⟨s,o⟩:=so
  dsimp only at*
  have hcj:=hc j s l[j] hat hi
  clear hc hI hinv hat
  generalize g j s l[j]=gx at*
  obtain⟨s',y⟩:=gx
  dsimp only at*
  have hob:o.length≤1000000000:=by rw[hol,qaU];omega
  have hom:(o.map exT).length=o.length:=qaa _
  rw[<-hom]
  rw[zay]at hcj
  change _=some (.ag [.s l[j].name,T.n l[j].ty,.sl 3 (l[j].clock.map onT)]:T)at hx
  repeat' (first|refine wkt ?_|refine wkaM ?_|refine zqq ?_|(apply TO.zaD N hcj;(iterate 3 exact rfl);exact Les.refl _;exact zgX (hN s);exact zey (hN s);exact hcu;exact hu s;exact zeI N _;exact hN s';exact hu s';exact zdi (hN s))|refine zqc ?_|refine zab.exit ?_|exact wkc|intro hc|refine wk2 ?_ ?_|refine wk ?_|fail)
  exact zwbj
 ·exact zwj
set_option maxHeartbeats 4000000 in
theorem znb {σ:Type} (Hs:σ->Heap) (N:Nat) (hN:∀s,(Hs s).length=N) (hu:∀s,zac N (Hs s)=true) (fid:FuncId) (caps:List SV) (hcu:unders N caps=true) (g:Nat->σ->Decl->σ×(Decl)) (I:Nat->σ->Prop) (l:List Decl) (hl:l.length≤1000000000)
  (hc:∀(i:Nat) (s:σ) (x:Decl),l[i]?=some x->I i s->Sound Tryz.prog fid (.i (i:Int):: .t (zaa x)::caps) (Hs s) (fun r H'=>r= .ret (.t (zaa (g i s x).2))/\H'=Hs (g i s x).1))
  (hI:∀i s x,l[i]?=some x->I i s->I (i+1) (g i s x).1) (s0:σ) (h0:I 0 s0):
  Sound Tryz.prog 130 [.t (.sl 3 (l.map zaa)),.fn fid caps] (Hs s0) (fun r H'=>r= .ret (.sl 3 ((mapN g 0 s0 l).2.map zaa) N)/\H'=Hs (mapN g 0 s0 l).1++[.tail l.length]):=by
 have hml:(l.map zaa).length=l.length:=qaa _
 have hinv:=zck (f:=g) (l:=l) hI h0
 have hlen:=fun k=>zcl g k 0 s0
 refine so Tryz.func130 ?_
 repeat' (first|refine wkt ?_|fail)
 refine TR.tail 3 5 rfl ?_
 rw[hN s0]
 refine TR.zal l.length (fun _=>True) (fun j=>[(1,.fn fid caps),(5,.sl 3 ((mapN g 0 s0 (l.take j)).2.map zaa) N),(8,.t (.sl 3 (l.map zaa))),(9,.i l.length),(10,.i j)]) (fun j=>Hs (mapN g 0 s0 (l.take j)).1++[.tail (l.take j).length]) trivial (fun j hlt _=>?_) (fun _=>?_) ⟨rfl,rfl,rfl,by rw[<-hml];rfl,rfl,trivial⟩ rfl
 ·have hx:=zao zaa hlt
  have hn:=zc1 g s0 hlt
  have hat:l[j]?=some l[j]:=qac hlt
  have hi:=hinv j (qbr hlt)
  have hol:=hlen (l.take j)
  rw[<-hol]
  have hol2:=hlen (l.take (j+1))
  rw[hn]at hol2
  generalize mapN g 0 s0 (l.take j)=so at*
  obtain⟨s,o⟩:=so
  dsimp only at*
  have hcj:=hc j s l[j] hat hi
  clear hc hI hinv hat
  generalize g j s l[j]=gx at*
  obtain⟨s',y⟩:=gx
  dsimp only at*
  have hob:o.length≤1000000000:=by rw[hol,qaU];omega
  have hom:(o.map zaa).length=o.length:=qaa _
  exact zwf
 ·exact zwj
set_option maxHeartbeats 4000000 in
theorem znd {σ:Type} (Hs:σ->Heap) (N:Nat) (hN:∀s,(Hs s).length=N) (hu:∀s,zac N (Hs s)=true) (fid:FuncId) (caps:List SV) (hcu:unders N caps=true) (g:Nat->σ->Ex->σ×(Ex)) (I:Nat->σ->Prop) (l:List Ex) (hl:l.length≤1000000000)
  (hc:∀(i:Nat) (s:σ) (x:Ex),l[i]?=some x->I i s->Sound Tryz.prog fid (.i (i:Int):: .t (exT x)::caps) (Hs s) (fun r H'=>r= .ret (.t (exT (g i s x).2))/\H'=Hs (g i s x).1))
  (hI:∀i s x,l[i]?=some x->I i s->I (i+1) (g i s x).1) (s0:σ) (h0:I 0 s0):
  Sound Tryz.prog 128 [.t (.sl 6 (l.map exT)),.fn fid caps] (Hs s0) (fun r H'=>r= .ret (.sl 6 ((mapN g 0 s0 l).2.map exT) N)/\H'=Hs (mapN g 0 s0 l).1++[.tail l.length]):=by
 have hml:(l.map exT).length=l.length:=qaa _
 have hinv:=zck (f:=g) (l:=l) hI h0
 have hlen:=fun k=>zcl g k 0 s0
 refine so Tryz.func128 ?_
 repeat' (first|refine wkt ?_|fail)
 refine TR.tail 6 5 rfl ?_
 rw[hN s0]
 refine TR.zal l.length (fun _=>True) (fun j=>[(1,.fn fid caps),(5,.sl 6 ((mapN g 0 s0 (l.take j)).2.map exT) N),(8,.t (.sl 6 (l.map exT))),(9,.i l.length),(10,.i j)]) (fun j=>Hs (mapN g 0 s0 (l.take j)).1++[.tail (l.take j).length]) trivial (fun j hlt _=>?_) (fun _=>?_) ⟨rfl,rfl,rfl,by rw[<-hml];rfl,rfl,trivial⟩ rfl
 ·have hx:=zao exT hlt
  have hn:=zc1 g s0 hlt
  have hat:l[j]?=some l[j]:=qac hlt
  have hi:=hinv j (qbr hlt)
  have hol:=hlen (l.take j)
  rw[<-hol]
  have hol2:=hlen (l.take (j+1))
  rw[hn]at hol2
  generalize mapN g 0 s0 (l.take j)=so at*
  obtain⟨s,o⟩:=so
  dsimp only at*
  have hcj:=hc j s l[j] hat hi
  clear hc hI hinv hat
  generalize g j s l[j]=gx at*
  obtain⟨s',y⟩:=gx
  dsimp only at*
  have hob:o.length≤1000000000:=by rw[hol,qaU];omega
  have hom:(o.map exT).length=o.length:=qaa _
  rw[<-hom]
  rw[zay]at hcj
  rw[zay]at hx hcj
  repeat' (first|refine wkt ?_|refine wkaM ?_|refine zqq ?_|(apply TO.zaD N hcj;(iterate 3 exact rfl);exact Les.refl _;exact zgX (hN s);exact zey (hN s);exact hcu;exact hu s;exact zeI N _;exact hN s';exact hu s';exact zdi (hN s))|refine zqc ?_|refine zab.exit ?_|exact wkc|intro hc|refine wk2 ?_ ?_|refine wk ?_|fail)
  exact zwbj
 ·exact zwj
set_option maxHeartbeats 4000000 in
theorem zni {σ:Type} (Hs:σ->Heap) (N:Nat) (hN:∀s,(Hs s).length=N) (hu:∀s,zac N (Hs s)=true) (fid:FuncId) (caps:List SV) (hcu:unders N caps=true) (g:Nat->σ->En->σ×(En)) (I:Nat->σ->Prop) (l:List En) (hl:l.length≤1000000000)
  (hc:∀(i:Nat) (s:σ) (x:En),l[i]?=some x->I i s->Sound Tryz.prog fid (.i (i:Int):: .t (enT x)::caps) (Hs s) (fun r H'=>r= .ret (.t (enT (g i s x).2))/\H'=Hs (g i s x).1))
  (hI:∀i s x,l[i]?=some x->I i s->I (i+1) (g i s x).1) (s0:σ) (h0:I 0 s0):
  Sound Tryz.prog 74 [.t (.sl 2 (l.map enT)),.fn fid caps] (Hs s0) (fun r H'=>r= .ret (.sl 2 ((mapN g 0 s0 l).2.map enT) N)/\H'=Hs (mapN g 0 s0 l).1++[.tail l.length]):=by
 have hml:(l.map enT).length=l.length:=qaa _
 have hinv:=zck (f:=g) (l:=l) hI h0
 have hlen:=fun k=>zcl g k 0 s0
 refine so Tryz.func74 ?_
 repeat' (first|refine wkt ?_|fail)
 refine TR.tail 2 5 rfl ?_
 rw[hN s0]
 refine TR.zal l.length (fun _=>True) (fun j=>[(1,.fn fid caps),(5,.sl 2 ((mapN g 0 s0 (l.take j)).2.map enT) N),(8,.t (.sl 2 (l.map enT))),(9,.i l.length),(10,.i j)]) (fun j=>Hs (mapN g 0 s0 (l.take j)).1++[.tail (l.take j).length]) trivial (fun j hlt _=>?_) (fun _=>?_) ⟨rfl,rfl,rfl,by rw[<-hml];rfl,rfl,trivial⟩ rfl
 ·have hx:=zao enT hlt
  have hn:=zc1 g s0 hlt
  have hat:l[j]?=some l[j]:=qac hlt
  have hi:=hinv j (qbr hlt)
  have hol:=hlen (l.take j)
  rw[<-hol]
  have hol2:=hlen (l.take (j+1))
  rw[hn]at hol2
  generalize mapN g 0 s0 (l.take j)=so at*
  obtain⟨s,o⟩:=so
  dsimp only at*
  have hcj:=hc j s l[j] hat hi
  clear hc hI hinv hat
  generalize g j s l[j]=gx at*
  obtain⟨s',y⟩:=gx
  dsimp only at*
  have hob:o.length≤1000000000:=by rw[hol,qaU];omega
  have hom:(o.map enT).length=o.length:=qaa _
  rw[<-hom]
  skip
  change _=some (.ag [.s l[j].name,.sl 1 (l[j].tags.map T.s)]:T)at hx
  repeat' (first|refine wkt ?_|refine wkaM ?_|refine zqq ?_|(apply TO.zaD N hcj;(iterate 3 exact rfl);exact Les.refl _;exact zgX (hN s);exact zey (hN s);exact hcu;exact hu s;exact zeI N _;exact hN s';exact hu s';exact zdi (hN s))|refine zqc ?_|refine zab.exit ?_|exact wkc|intro hc|refine wk2 ?_ ?_|refine wk ?_|fail)
  exact zab.zaz hlt trivial (by(try dsimp only);rw[hn,qal];exact⟨rfl,rfl,rfl,rfl,rfl,trivial⟩) (by(try dsimp only);rw[hn,<-hol2];simp)
 ·exact zwj
set_option maxHeartbeats 4000000 in
theorem zne {σ:Type} (Hs:σ->Heap) (N:Nat) (hN:∀s,(Hs s).length=N) (hu:∀s,zac N (Hs s)=true) (fid:FuncId) (caps:List SV) (hcu:unders N caps=true) (g:Nat->σ->Nod->σ×(Nod)) (I:Nat->σ->Prop) (l:List Nod) (hl:l.length≤1000000000)
  (hc:∀(i:Nat) (s:σ) (x:Nod),l[i]?=some x->I i s->Sound Tryz.prog fid (.i (i:Int):: .t (nodT x)::caps) (Hs s) (fun r H'=>r= .ret (.t (nodT (g i s x).2))/\H'=Hs (g i s x).1))
  (hI:∀i s x,l[i]?=some x->I i s->I (i+1) (g i s x).1) (s0:σ) (h0:I 0 s0):
  Sound Tryz.prog 77 [.t (.sl 8 (l.map nodT)),.fn fid caps] (Hs s0) (fun r H'=>r= .ret (.sl 8 ((mapN g 0 s0 l).2.map nodT) N)/\H'=Hs (mapN g 0 s0 l).1++[.tail l.length]):=by
 have hml:(l.map nodT).length=l.length:=qaa _
 have hinv:=zck (f:=g) (l:=l) hI h0
 have hlen:=fun k=>zcl g k 0 s0
 refine so Tryz.func77 ?_
 repeat' (first|refine wkt ?_|fail)
 refine TR.tail 8 5 rfl ?_
 rw[hN s0]
 refine TR.zal l.length (fun _=>True) (fun j=>[(1,.fn fid caps),(5,.sl 8 ((mapN g 0 s0 (l.take j)).2.map nodT) N),(8,.t (.sl 8 (l.map nodT))),(9,.i l.length),(10,.i j)]) (fun j=>Hs (mapN g 0 s0 (l.take j)).1++[.tail (l.take j).length]) trivial (fun j hlt _=>?_) (fun _=>?_) ⟨rfl,rfl,rfl,by rw[<-hml];rfl,rfl,trivial⟩ rfl
 ·have hx:=zao nodT hlt
  have hn:=zc1 g s0 hlt
  have hat:l[j]?=some l[j]:=qac hlt
  have hi:=hinv j (qbr hlt)
  have hol:=hlen (l.take j)
  rw[<-hol]
  have hol2:=hlen (l.take (j+1))
  rw[hn]at hol2
  generalize mapN g 0 s0 (l.take j)=so at*
  obtain⟨s,o⟩:=so
  dsimp only at*
  have hcj:=hc j s l[j] hat hi
  clear hc hI hinv hat
  generalize g j s l[j]=gx at*
  obtain⟨s',y⟩:=gx
  dsimp only at*
  have hob:o.length≤1000000000:=by rw[hol,qaU];omega
  have hom:(o.map nodT).length=o.length:=qaa _
  rw[<-hom]
  skip
  change _=some (.ag (nodC l[j]):T)at hx
  repeat' (first|refine wkt ?_|refine wkaM ?_|refine zqq ?_|(apply TO.zaD N hcj;(iterate 3 exact rfl);exact Les.refl _;exact zgX (hN s);exact zey (hN s);exact hcu;exact hu s;exact zeI N _;exact hN s';exact hu s';exact zdi (hN s))|refine zqc ?_|refine zab.exit ?_|exact wkc|intro hc|refine wk2 ?_ ?_|refine wk ?_|fail)
  exact zab.zaz hlt trivial (by(try dsimp only);rw[hn,qal];exact⟨rfl,rfl,rfl,rfl,rfl,trivial⟩) (by(try dsimp only);rw[hn,<-hol2];simp)
 ·exact zwj
set_option maxHeartbeats 4000000 in
theorem znf {σ:Type} (Hs:σ->Heap) (N:Nat) (hN:∀s,(Hs s).length=N) (hu:∀s,zac N (Hs s)=true) (fid:FuncId) (caps:List SV) (hcu:unders N caps=true) (g:Nat->σ->Equ->σ×(Equ)) (I:Nat->σ->Prop) (l:List Equ) (hl:l.length≤1000000000)
  (hc:∀(i:Nat) (s:σ) (x:Equ),l[i]?=some x->I i s->Sound Tryz.prog fid (.i (i:Int):: .t (equT x)::caps) (Hs s) (fun r H'=>r= .ret (.t (equT (g i s x).2))/\H'=Hs (g i s x).1))
  (hI:∀i s x,l[i]?=some x->I i s->I (i+1) (g i s x).1) (s0:σ) (h0:I 0 s0):
  Sound Tryz.prog 79 [.t (.sl 7 (l.map equT)),.fn fid caps] (Hs s0) (fun r H'=>r= .ret (.sl 7 ((mapN g 0 s0 l).2.map equT) N)/\H'=Hs (mapN g 0 s0 l).1++[.tail l.length]):=by
 have hml:(l.map equT).length=l.length:=qaa _
 have hinv:=zck (f:=g) (l:=l) hI h0
 have hlen:=fun k=>zcl g k 0 s0
 refine so Tryz.func79 ?_
 repeat' (first|refine wkt ?_|fail)
 refine TR.tail 7 5 rfl ?_
 rw[hN s0]
 refine TR.zal l.length (fun _=>True) (fun j=>[(1,.fn fid caps),(5,.sl 7 ((mapN g 0 s0 (l.take j)).2.map equT) N),(8,.t (.sl 7 (l.map equT))),(9,.i l.length),(10,.i j)]) (fun j=>Hs (mapN g 0 s0 (l.take j)).1++[.tail (l.take j).length]) trivial (fun j hlt _=>?_) (fun _=>?_) ⟨rfl,rfl,rfl,by rw[<-hml];rfl,rfl,trivial⟩ rfl
 ·have hx:=zao equT hlt
  have hn:=zc1 g s0 hlt
  have hat:l[j]?=some l[j]:=qac hlt
  have hi:=hinv j (qbr hlt)
  have hol:=hlen (l.take j)
  rw[<-hol]
  have hol2:=hlen (l.take (j+1))
  rw[hn]at hol2
  generalize mapN g 0 s0 (l.take j)=so at*
  obtain⟨s,o⟩:=so
  dsimp only at*
  have hcj:=hc j s l[j] hat hi
  clear hc hI hinv hat
  generalize g j s l[j]=gx at*
  obtain⟨s',y⟩:=gx
  dsimp only at*
  have hob:o.length≤1000000000:=by rw[hol,qaU];omega
  have hom:(o.map equT).length=o.length:=qaa _
  rw[<-hom]
  skip
  change _=some (.ag (.sl 1 (l[j].left.map T.s)::exC l[j].right):T)at hx
  repeat' (first|refine wkt ?_|refine wkaM ?_|refine zqq ?_|(apply TO.zaD N hcj;(iterate 3 exact rfl);exact Les.refl _;exact zgX (hN s);exact zey (hN s);exact hcu;exact hu s;exact zeI N _;exact hN s';exact hu s';exact zdi (hN s))|refine zqc ?_|refine zab.exit ?_|exact wkc|intro hc|refine wk2 ?_ ?_|refine wk ?_|fail)
  exact zab.zaz hlt trivial (by(try dsimp only);rw[hn,qal];exact⟨rfl,rfl,rfl,rfl,rfl,trivial⟩) (by(try dsimp only);rw[hn,<-hol2];simp)
 ·exact zwj
end Go.Proofs.YtpnnpgbaiobbjaaGreatDoor
