import Derived.DeepKeys5
import Derived.Test.YtdicfgideclbdaaGreatDoorAk18
import Derived.Test.YtdicfgideclbdaaGreatDoorAk22
import Derived.Test.YtdicfgideclbdaaGreatDoorAk23
set_option maxHeartbeats 64000000
set_option linter.all false
namespace Go.Proofs.YtdicfgideclbdaaGreatDoor
open Go Go.TL
attribute [local irreducible] TR TO Then zaj RetK Sound zac Kf GG zaQ
variable {lo k:Nat}{α:Type}{f g:Nat->PR Ex}{l:List Tok}{es:List En}{tv:Nat×Nat}{env:Env}{H:Heap}
def InR(n lo:Nat){α:Type}:PR α->Prop
 | .ok _ j=>lo≤j/\j≤n
 | .er k c=>k≤n/\c≠0
theorem InR.bind{n lo lo':Nat}{α β:Type}{r:PR α}{f:α->Nat->PR β}(h:InR n lo r)(hf:∀v j,lo≤j->j≤n->InR n lo' (f v j)):InR n lo' (r.bind f):=by
 cases r with
 | ok v j=>exact hf v j h.1 h.2
 | er k c=>exact h
theorem InR.le{n lo':Nat}{r:PR α}(h:InR n lo r)(hl:lo'≤lo):InR n lo' r:=by
 cases r with
 | ok v j=>exact⟨qax hl h.1,h.2⟩
 | er k c=>exact h
theorem InR.ite{n:Nat}{c:Prop}[Decidable c]{a b:PR α}(ha:c->InR n lo a)(hb:¬c->InR n lo b):InR n lo (if c then a else b):=by
 split
 ·rename_i h;exact ha h
 ·rename_i h;exact hb h
section
variable {R:Rd}
theorem zal{i:Nat}{s:Str}(h:R.isAt i s=true):i<R.K.length:=by
 unfold Rd.isAt at h;exact zwem
theorem zdJ{i:Nat}{k:Int}(h:R.kind i k=true):i<R.K.length:=by
 unfold Rd.kind at h;exact zwem
theorem zaO:∀(ss:List Str) {i:Nat},i≤R.K.length->InR R.K.length (i+ss.length) (R.must ss i)
 | [],i,h=>⟨qag _,h⟩
 | s::ss,i,h=>by
   unfold Rd.must;refine InR.ite (fun hs=>(zaO ss (zal hs)).le (by simp only[qae];omega)) fun _=>⟨h,oB⟩
theorem zhk{i:Nat}(h:i≤R.K.length):InR R.K.length (i+1) (R.id i):=by
 unfold Rd.id;exact InR.ite (fun hs=>⟨qag _,zdJ hs⟩) fun _=>⟨h,oB⟩
theorem zdK{n most i:Nat}(h:i≤R.K.length):InR R.K.length i (limR n most i):=by
 unfold limR;exact InR.ite (fun _=>⟨h,oB⟩) fun _=>⟨qag _,h⟩
theorem zm3{i:Nat}(h:i≤R.K.length):InR R.K.length (i+1) (R.aTag i):=by
 unfold Rd.aTag;exact zwx
theorem zfE{i:Nat}(h:i≤R.K.length):InR R.K.length (i+1) (R.sampling i):=by
 unfold Rd.sampling;refine(zm3 h).bind fun _ j h1 h2=>(zaO _ h2).bind fun _ j h3 h4=>(zhk h4).bind fun _ j h5 h6=>(zaO _ h6).bind fun _ j h7 h8=>⟨?_,h8⟩
 simp only[qae,qal]at *;omega
theorem zsP{n i:Nat}{o:Int}(h:R.oper n i=some o):i<R.K.length:=by
 unfold Rd.oper at h;split at h
 ·rename_i hk;rcases Bool.or_eq_true_iff.1 hk with hk|hk <;> exact zdJ hk
 ·cases h
theorem zsQ{f:Nat->PR Ex}(hf:∀i,i≤R.K.length->InR R.K.length (i+1) (f i))(n:Nat):∀(m:Nat) (a:Ex) {i:Nat},i≤R.K.length->InR R.K.length i (R.ops f n m a i)
 | 0,a,i,h=>⟨qag _,h⟩
 | m+1,a,i,h=>by
   unfold Rd.ops;split
   ·exact⟨qag _,h⟩
   ·rename_i op ho;refine(hf _ (zsP ho)).bind fun b j h1 h2=>InR.ite (fun _=>⟨oA,h2⟩) fun _=>(zsQ hf n m _ h2).le oA
theorem zld:∀(m:Nat) (e:Ex) {i:Nat},i≤R.K.length->InR R.K.length i (R.whens m e i)
 | 0,e,i,h=>⟨qag _,h⟩
 | m+1,e,i,h=>by
   unfold Rd.whens;exact InR.ite (fun hs=>(zfE (zal hs)).bind fun o j h1 h2=>(zld m _ h2).le oA) fun _=>⟨qag _,h⟩
theorem zrg{f:Nat->PR Ex}(hf:∀i,i≤R.K.length->InR R.K.length (i+1) (f i)):∀(m:Nat) (l:List Ex) {i:Nat},i≤R.K.length->InR R.K.length i (R.args f m l i)
 | 0,l,i,h=>⟨qag _,h⟩
 | m+1,l,i,h=>by
   unfold Rd.args;exact InR.ite (fun hs=>(hf _ (zal hs)).bind fun o j h1 h2=>(zrg hf m _ h2).le oA) fun _=>⟨qag _,h⟩
theorem zrz(hf:∀i,i≤R.K.length->InR R.K.length (i+1) (f i))(hg:∀i,i≤R.K.length->InR R.K.length (i+1) (g i))(s:Str){i:Nat}(h:i≤R.K.length):InR R.K.length (i+1) (R.call f g s i):=by
 unfold Rd.call;refine InR.bind (lo:=i+1) ?_ fun l j h1 h2=>InR.ite (fun hs=>(hg _ (zal hs)).bind fun a j h3 h4=>⟨oA,h4⟩) fun _=>⟨h1,h2⟩
 refine InR.ite (fun hs=>⟨qag _,zal hs⟩) fun _=>(hf i h).bind fun a j h1 h2=>(zrg hf _ _ h2).bind fun l j h3 h4=>(zaO _ h4).bind fun _ j h5 h6=>⟨?_,h6⟩
 omega
theorem zmZ{t v:Nat}{known:Bool}{i:Nat}(h:i≤R.K.length):InR R.K.length i (R.wanted t v known i):=by
 unfold Rd.wanted;repeat' split
 all_goals first
  | exact⟨h,oB⟩
  | exact⟨qag _,h⟩
theorem zls(hf:∀i,i≤R.K.length->InR R.K.length (i+1) (f i)){t v:Nat}{known:Bool}{i:Nat}(h:i≤R.K.length):InR R.K.length (i+1) (R.branch f t v known i):=by
 unfold Rd.branch;refine(zaO _ h).bind fun _ j h1 h2=>(zmZ h2).bind fun _ _ _ _=>(zm3 h2).bind fun tv k h3 h4=>InR.ite (fun _=>⟨h2,oB⟩) fun _=>(zaO _ h4).bind fun _ k h5 h6=>(hf _ h6).bind fun e k h7 h8=>(zaO _ h8).bind fun _ k h9 h10=>⟨?_,h10⟩
 simp only[qae,qal]at *;omega
theorem zhW{f:Nat->PR Ex}(hf:∀i,i≤R.K.length->InR R.K.length (i+1) (f i)){t size:Nat}:∀(m k:Nat) (l:List Ex) {i:Nat},i≤R.K.length->InR R.K.length i (R.branches f t size m k l i)
 | 0,k,l,i,h=>⟨qag _,h⟩
 | m+1,k,l,i,h=>by
   unfold Rd.branches;exact InR.ite (fun _=>⟨qag _,h⟩) fun _=>(zls hf h).bind fun te j h1 h2=>(zhW hf m _ _ h2).le oA
theorem zpc(hf:∀i,i≤R.K.length->InR R.K.length (i+1) (f i)){i:Nat}(h:i≤R.K.length):InR R.K.length (i+1) (R.merge f i):=by
 unfold Rd.merge;exact(zhk h).bind fun _ j h1 h2=>(zls hf h2).bind fun te j h3 h4=>(zhW hf _ _ _ h4).bind fun l j h5 h6=>⟨oA,h6⟩
theorem zuA(hf:∀i,i≤R.K.length->InR R.K.length (i+1) (f i))(hg:∀i,i≤R.K.length->InR R.K.length (i+1) (g i)){i:Nat}(h:i≤R.K.length):InR R.K.length (i+1) (R.ident f g i):=by
 unfold Rd.ident;refine(zhk h).bind fun s j h1 h2=>InR.ite (fun hs=>(zrz hf hg s (zal hs)).le oA) fun _=>?_
 split <;> exact⟨h1,h2⟩
theorem zzD{i:Nat}(h:R.neg i=true):i+1<R.K.length:=by
 unfold Rd.neg at h;exact zdJ (Bool.and_eq_true_iff.1 h).2
theorem zsT(hf:∀i,i≤R.K.length->InR R.K.length (i+1) (f i))(hg:∀i,i≤R.K.length->InR R.K.length (i+1) (g i)){i:Nat}(h:i≤R.K.length):InR R.K.length (i+1) (R.prim f g i):=by
 unfold Rd.prim
 refine InR.ite (fun hs=>⟨oA,zzD hs⟩) fun _=>InR.ite (fun hs=>⟨zal hs,oB⟩) fun _=>InR.ite (fun hs=>InR.ite (fun _=>⟨h,oB⟩) fun _=>⟨qag _,zdJ hs⟩) fun _=>
  InR.ite (fun hs=>⟨qag _,zdJ hs⟩) fun _=>InR.ite (fun hs=>⟨qag _,zal hs⟩) fun _=>InR.ite (fun hs=>⟨qag _,zal hs⟩) fun _=>
  InR.ite (fun hs=>(hf _ (zal hs)).bind fun e j h1 h2=>(zaO _ h2).bind fun _ j h3 h4=>⟨oA,h4⟩) fun _=>
  InR.ite (fun hs=>(hf _ (zal hs)).bind fun e j h1 h2=>(zaO _ h2).bind fun _ j h3 h4=>(hf _ h4).bind fun e j h5 h6=>(zaO _ h6).bind fun _ j h7 h8=>(hf _ h8).bind fun e j h9 h10=>⟨oA,h10⟩) fun _=>
  InR.ite (fun hs=>(zpc hf (zal hs)).le oA) fun _=>zuA hf hg h
theorem zcZ:∀(m:Nat) (g:G) {i:Nat},i≤R.K.length->InR R.K.length (i+1) (pF R m g i)
 | 0,g,i,h=>⟨h,oB⟩
 | m+1,.expr,i,h=>by
   unfold pF;refine(zcZ m _ h).bind fun a j h1 h2=>InR.ite (fun hs=>(zcZ m _ (zal hs)).bind fun b k h3 h4=>⟨oA,h4⟩) fun _=>InR.ite (fun hs=>(zcZ m _ (zal hs)).bind fun b k h3 h4=>⟨oA,h4⟩) fun _=>⟨h1,h2⟩
 | m+1,.level n,i,h=>by
   unfold pF;refine InR.ite (fun _=>InR.ite (fun hs=>(zcZ m _ (zal hs)).bind fun b k h3 h4=>⟨oA,h4⟩) fun _=>zcZ m _ h) fun _=>InR.ite (fun _=>zcZ m _ h) fun _=>(zcZ m _ h).bind fun a j h1 h2=>(zsQ (fun i hi=>zcZ m _ hi) n _ a h2).le h1
 | m+1,.unary,i,h=>by
   unfold pF;refine InR.ite (fun hs=>(zcZ m _ (zal hs.2)).bind fun b k h3 h4=>⟨oA,h4⟩) fun _=>InR.ite (fun hs=>(zcZ m _ (zal hs.2)).bind fun b k h3 h4=>⟨oA,h4⟩) fun _=>(zcZ m _ h).bind fun e j h1 h2=>(zld _ e h2).le h1
 | m+1,.prim,i,h=>by
   unfold pF;exact zsT (fun i hi=>zcZ m _ hi) (fun i hi=>zcZ m _ hi) h
end
abbrev rdr (l:List Tok)(es:List En):Rd:=⟨l.map fun t=>(t.1,t.2.1),es⟩
abbrev rdB (l:List Tok)(n:Int)(es:List En)(i:Nat):Blk:=.cells [.t (.sl 3 (l.map tokT)),.i n,.i i,.t (.sl 2 (es.map enT))]
theorem zau(l:List Tok)(es:List En):(rdr l es).K.length=l.length:=qac _
theorem zdR(h:k<l.length):(l.map tokT)[k]?=some (.ag [T.i l[k].1,.s l[k].2.1,T.i l[k].2.2]):=zbc tokT h
theorem zqz(l:List Tok)(n:Int)(es:List En)(i k:Nat)(s:Str)(hl:l.length≤1000000):Sound Tryz.prog 112 [.ref 0 0,.i k,.s s] [rdB l n es i] (fun r H'=>r= .ret (.b ((rdr l es).isAt k s))/\H'=[rdB l n es i]):=by
 have hml:(l.map tokT).length=l.length:=qac _;unfold Rd.isAt;simp only[qan];by_cases hk:k<l.length
 ·have hx:=zdR hk;rw[qad hk];generalize l[k]=t at*;simp only[qaT];refine so Tryz.func112 ?_;repeat' (first|refine wu ?_|exact wkc|refine wk2 ?_ ?_|intro hc)
  all_goals exact zwbt
 ·rw[qa8 oA];refine so Tryz.func112 ?_;exact zweg
theorem zbp(l:List Tok)(n:Int)(es:List En)(i:Nat)(s:Str)(hl:l.length≤1000000):Sound Tryz.prog 60 [.ref 0 0,.s s] [rdB l n es i] (fun r H'=>r= .ret (.b ((rdr l es).isAt i s))/\H'=[rdB l n es i]):=by
 have h:=zqz l n es i i s hl;refine so Tryz.func60 ?_;refine yc h ?_;exact zwfg
theorem zbT(l:List Tok)(n:Int)(es:List En)(i:Nat)(k:Int)(hl:l.length≤1000000):Sound Tryz.prog 64 [.ref 0 0,.i k] [rdB l n es i] (fun r H'=>r= .ret (.b ((rdr l es).kind i k))/\H'=[rdB l n es i]):=by
 have hml:(l.map tokT).length=l.length:=qac _;unfold Rd.kind;simp only[qan];by_cases hk:i<l.length
 ·have hx:=zdR hk;rw[qad hk];generalize l[i]=t at*;simp only[qaT];refine so Tryz.func64 ?_;repeat' (first|refine wu ?_|exact wkc|refine wk2 ?_ ?_|intro hc)
  all_goals exact zwbt
 ·rw[qa8 oA];refine so Tryz.func64 ?_;exact zweg
theorem zay(l:List Tok)(n:Int)(es:List En)(i:Nat)(s:Str)(hl:l.length≤1000000)(hi:i≤l.length):Sound Tryz.prog 65 [.ref 0 0,.s s] [rdB l n es i] (fun r H'=>r= .ret (.b ((rdr l es).isAt i s))/\H'=[rdB l n es (if(rdr l es).isAt i s=true then i+1 else i)]):=by
 have h:=zbp l n es i s hl;generalize (rdr l es).isAt i s=b at*;cases b
 all_goals
  refine so Tryz.func65 ?_;refine yc h ?_;exact RetK.keep 1 rfl (Le.refl _) rfl rfl rfl rfl rfl ⟨rfl,rfl⟩
section
variable {l:List Tok}{n:Int}{es:List En}{α:Type}{r:PR α}{rs:List ResultVar}{v:SV}{j k:Nat}{c:Int}
end
theorem zkb{l:List Str}(h:k<l.length):(l.map T.s)[k]?=some (T.s l[k]):=by simp[h]
def idxS(s:Str)(l:List Str):Int:=match idxOf s 0 l with
 | some k=>(k:Int)
 | none=>-1
theorem zqv{s:Str}{l:List Str}(h:k<l.length):idxOf s k (l.drop k)=if l[k]=s then some k else idxOf s (k+1) (l.drop (k+1)):=by
 rw[qaN h,idxOf]
theorem zlZ(l:List Str)(s:Str)(hl:l.length≤1000000000):Pure Tryz.prog 192 [.t (.sl 1 (l.map T.s)),.s s] (.i (idxS s l)):=by
 have hml:(l.map T.s).length=l.length:=qac _;have h0:idxS s l=match idxOf s 0 (l.drop 0)with|some k=>(k:Int)|none=>-1:=rfl
 generalize idxS s l=z at*;refine so Tryz.func192 ?_;repeat' (first|refine wu ?_|exact wkc|refine wk2 ?_ ?_|intro hc)
 refine TR.zaz l.length (fun k=>z=match idxOf s k (l.drop k)with|some k=>(k:Int)|none=>-1) (fun k=>[(0,.t (.sl 1 (l.map T.s))),(1,.s s),(7,.i (l.map T.s).length),(8,.i k)]) (fun _=>[]) h0 (fun k hlt ha=>?_) (fun ha=>?_)
 ·have hx:=zkb hlt;rw[zqv hlt]at ha;generalize l[k]=t at*;repeat' (first|refine wu ?_|exact wkc|refine wk2 ?_ ?_|intro hc)
  ·rw[oG (Eq.symm oE)]at ha;subst ha;exact wkr
  ·rw[oH (fun h=>by first|exact oI h.symm oE|exact oI h oE)]at ha;exact zac.zaH hlt ha
 ·rw[qa2 (qag _)]at ha;repeat' (first|refine wu ?_|exact wkc|refine wk2 ?_ ?_|intro hc)
  subst ha;exact wkr
structure EsOk (es:List En):Prop where
 len:es.length≤3000000
 tags:∀u∈es,u.tags.length≤3000000
def tagR:Option (Nat×Nat)->SV
 | some tv=>.tup [.i (tv.1:Nat),.i (tv.2:Nat),.b true]
 | none=>.tup [.i 0,.i 0,.b false]
theorem zky{s:Str}:∀ {l:List Str} {k j:Nat},idxOf s k l=some j->k≤j/\j<k+l.length
 | [],_,_,h=>by cases h
 | t::l,k,j,h=>by
   rw[idxOf]at h;split at h
   ·cases h;simp
   ·have:=zky h
    simp only[qae];omega
theorem zmL{s:Str}(h:k<es.length):zbu s k (es.drop k)=match idxOf s 0 es[k].tags with|some j=>some (3+k,j)|none=>zbu s (k+1) (es.drop (k+1)):=by
 rw[qaN h,zbu];cases idxOf s 0 es[k].tags <;> rfl
theorem zj2{s:Str}:∀ {es:List En} {k:Nat} {tv:Nat×Nat},zbu s k es=some tv->3+k≤tv.1/\tv.1<3+k+es.length/\∃u,es[tv.1-3-k]?=some u/\tv.2<u.tags.length
 | [],_,_,h=>by cases h
 | u::es,k,tv,h=>by
   rw[zbu]at h;cases hq:idxOf s 0 u.tags with
   | some j=>
     rw[hq]at h;cases h
     have:=zky hq
     exact⟨qag _,oC,u,oC,by simpa using this.2⟩
   | none=>
     rw[hq]at h;obtain⟨h1,h2,w,h3,h4⟩:=zj2 h;refine⟨oA,by simp only[qae];omega,w,?_,h4⟩;rw[show tv.1-3-k=(tv.1-3-(k+1))+1 by omega];simpa using h3
theorem zgN (l:List Tok) (n:Int) (es:List En) (i:Nat) (s:Str) (he:EsOk es):Sound Tryz.prog 200 [.ref 0 0,.s s] [rdB l n es i] (fun r H'=>r= .ret (tagR ((rdr l es).tag s))/\H'=[rdB l n es i]):=by
 have hml:(es.map enT).length=es.length:=qac _;have hle:=he.len;have h0:(rdr l es).tag s=zbu s 0 (es.drop 0):=rfl;generalize (rdr l es).tag s=z at*;refine so Tryz.func200 ?_;repeat' (first|refine wu ?_|exact wkc|refine wk2 ?_ ?_|intro hc)
 refine TR.zaz es.length (fun k=>z=zbu s k (es.drop k)) (fun k=>[(0,.ref 0 0),(1,.s s),(13,.t (.sl 2 (es.map enT))),(14,.i (es.map enT).length),(15,.i k)]) (fun _=>[rdB l n es i]) h0 (fun k hlt ha=>?_) (fun ha=>?_)
 ·have hx:=zbc enT hlt;rw[zmL hlt]at ha;have hu:=he.tags _ (qak hlt);generalize es[k]=u at*;have hs:=zlZ u.tags s oA;unfold enT at hx;have hid:idxS s u.tags=match idxOf s 0 u.tags with|some k=>(k:Int)|none=>-1:=rfl
  have hlt2:=fun j=>@zky s u.tags 0 j
  generalize idxS s u.tags=w at*;cases hq:idxOf s 0 u.tags with
  | some j=>
    rw[hq]at ha hid
    have:=hlt2 j hq
    simp only at ha hid;subst ha hid;repeat' (first|refine wkt ?_|refine wka ?_|refine wk ?_|exact wkc|refine wk2 ?_ ?_|refine wv hs ?_|intro hc)
    all_goals first
     | exact RetK.keep 1 rfl (Le.refl _) rfl rfl rfl rfl rfl ⟨rfl,rfl⟩
     | (exfalso;omega)
  | none=>
    rw[hq]at ha hid;simp only at ha hid;subst hid;repeat' (first|refine wkt ?_|refine wka ?_|refine wk ?_|exact wkc|refine wk2 ?_ ?_|refine wv hs ?_|intro hc)
    all_goals first
     | exact zac.zaH hlt ha
     | exact zac.zzE 1 hlt ha rfl rfl rfl rfl rfl
 ·rw[qa2 (qag _)]at ha;subst ha;exact zweg
theorem ztw(he:EsOk es){s:Str}(h:(rdr l es).tag s=some tv):3≤tv.1/\tv.1<3+es.length/\∃u,es[tv.1-3]?=some u/\tv.2<u.tags.length:=by
 obtain⟨h1,h2,u,h3,h4⟩:=zj2 (k:=0) h;exact⟨oA,by simpa using h2,u,by simpa using h3,h4⟩
theorem zj9(he:EsOk es){i j:Nat}(h:(rdr l es).aTag i= .ok tv j):(tv.1≤6000000/\tv.2≤3000000)/\(tv.1=1/\tv.2≤1\/3≤tv.1/\∃u,es[tv.1-3]?=some u/\tv.2<u.tags.length):=by
 unfold Rd.aTag at h;split at h
 ·exact zwfn
 ·split at h
  ·exact zwfn
  ·cases hq:(rdr l es).id i with
   | er k c=>rw[hq]at h;cases h
   | ok s j2=>
     rw[hq]at h;simp only[PR.bind]at h;cases hq2:(rdr l es).tag s with
     | none=>rw[hq2]at h;cases h
     | some x=>
       rw[hq2]at h;cases h;obtain⟨h1,h2,u,h3,h4⟩:=ztw he hq2
       have:=he.len
       have:=he.tags u (qau h3)
       exact⟨⟨oA,oA⟩,.inr ⟨h1,u,h3,h4⟩⟩
theorem zdN{x:Int}(h:-9223372036854775808≤x/\x≤9223372036854775807):(toI x).1=x:=by unfold toI;rw[dif_pos h]
theorem rgS{n:Nat}{env0 envF:Env}{H0:Heap}{K:TK}{id':Nat}{l:List Oper}(t:List SV)
  (hp:zi0 Tryz.prog n K True l.toArray (zaM l.toArray t env0) H0 l (t.map fun v=>(v,false)))(hK:K .normal envF H0)
  (hB:mixB l.toArray (t.map fun _=>false)=true:=by dsimp only[List.map];decide +kernel)(hne:0<l.length:=by decide)(hE:za7 (zaM l.toArray t env0)=some envF:=by exact rfl):
  TR Tryz.prog n (.region id' l.toArray true) env0 H0 K:=by
 have e1:(t.map fun v=>(v,false)).map (·.1)=t:=by rw[qa0];exact qcG t
 have e2:(t.map fun v=>(v,false)).map (·.2)=t.map fun _=>false:=by rw[qa0];rfl
 exact TR.zkN (t.map fun v=>(v,false)) hmix (by rw[e2];exact hB) (by rw[e1];exact hp) (by rw[e1];exact hE) hne fun _=>hK
theorem zl9 (l:List Tok) (n:Int) (es:List En) (i:Nat) (hl:l.length≤1000000) (hi:i≤l.length):Sound Tryz.prog 194 [.ref 0 0] [rdB l n es i] (fun r H'=>r= .ret (.b ((rdr l es).neg i))/\H'=[rdB l n es i]):=by
 have hml:(l.map tokT).length=l.length:=qac _;have h1:=zbp l n es i [45] hl;have hr:(rdr l es).neg i=((rdr l es).isAt i [45] && (rdr l es).kind (i+1) 2):=rfl
 have hk:(rdr l es).kind (i+1) 2=match l[i+1]? with|some t=>decide (t.1=2)|none=>false:=by
  unfold Rd.kind;simp only[qan];cases l[i+1]? <;> rfl
 generalize (rdr l es).neg i=b at*;generalize (rdr l es).kind (i+1) 2=bk at*;generalize (rdr l es).isAt i [45]=b1 at*;subst hr;cases b1 with
 | false=>
   refine so Tryz.func194 ?_;refine wkt ?_;refine rgS [.ref 0 0,.b false,.b false,.t (.v undef),.t (.v undef),.t (.v undef),.t (.v undef),.t (.v undef),.t (.v undef),.t (.v undef),.t (.v undef),.t (.v undef),.t (.v undef),.t (.v undef),.b false,.b false,.t (.v undef),.t (.v undef),.t (.v undef),.t (.v undef),.t (.v undef),.t (.v undef),.t (.v undef),.t (.v undef),.t (.v undef),.t (.v undef),.t (.v undef),.t (.v undef),.t (.v undef),.b false,.b false] ?_ ?_
   ·repeat' (first|refine wkt ?_|refine wd h1 ?_|exact trivial|exact⟨⟨rfl,rfl⟩,trivial⟩|refine qav (fun env=>?_) ?_|refine wk ?_|exact wkc|refine wk2 ?_ ?_|intro hc)
    done
   ·exact zweg
 | true=>
   by_cases hlt:i+1<l.length
   ·have hx:=zdR hlt;have hx':(l.map tokT)[((i:Int)+1).toNat]?=some (.ag [T.i l[i+1].1,.s l[i+1].2.1,T.i l[i+1].2.2]):=by rw[show((i:Int)+1).toNat=i+1 by omega];exact hx
    rw[qad hlt]at hk;simp only at hk;generalize l[i+1]=t at*;by_cases h2:t.1=2
    ·rw[decide_eq_true h2]at hk;subst hk;refine so Tryz.func194 ?_;refine wkt ?_;refine rgS [.ref 0 0,.b true,.b true,.ref 0 0,.ref 0 0,.ref 0 2,.i i,.i ((i:Int)+1),.ref 0 0,.ref 0 0,.ref 0 0,.t (.sl 3 (l.map tokT)),.i (l.map tokT).length,.b true,.b true,.b true,.ref 0 0,.ref 0 0,.ref 0 0,.t (.sl 3 (l.map tokT)),.ref 0 0,.ref 0 0,.ref 0 2,.i i,.i ((i:Int)+1),.cp [T.i t.1,.s t.2.1,T.i t.2.2] 0,.cp [T.i t.1,.s t.2.1,T.i t.2.2] 0,.i t.1,.b true,.b true,.b true] ?_ ?_
     ·repeat' (first|refine wkt ?_|refine wd h1 ?_|exact trivial|exact⟨⟨rfl,rfl⟩,trivial⟩|refine qav (fun env=>?_) ?_|refine wk ?_|exact wkc|refine wk2 ?_ ?_|intro hc)
      done
     ·exact zweg
    ·rw[decide_eq_false h2]at hk;subst hk;refine so Tryz.func194 ?_;refine wkt ?_;refine rgS [.ref 0 0,.b true,.b true,.ref 0 0,.ref 0 0,.ref 0 2,.i i,.i ((i:Int)+1),.ref 0 0,.ref 0 0,.ref 0 0,.t (.sl 3 (l.map tokT)),.i (l.map tokT).length,.b true,.b true,.b true,.ref 0 0,.ref 0 0,.ref 0 0,.t (.sl 3 (l.map tokT)),.ref 0 0,.ref 0 0,.ref 0 2,.i i,.i ((i:Int)+1),.cp [T.i t.1,.s t.2.1,T.i t.2.2] 0,.cp [T.i t.1,.s t.2.1,T.i t.2.2] 0,.i t.1,.b false,.b false,.b false] ?_ ?_
     ·repeat' (first|refine wkt ?_|refine wd h1 ?_|exact trivial|exact⟨⟨rfl,rfl⟩,trivial⟩|refine qav (fun env=>?_) ?_|refine wk ?_|exact wkc|refine wk2 ?_ ?_|intro hc)
      done
     ·exact zweg
   ·rw[qa8 oA]at hk;simp only at hk;subst hk;refine so Tryz.func194 ?_;refine wkt ?_;refine rgS [.ref 0 0,.b true,.b true,.ref 0 0,.ref 0 0,.ref 0 2,.i i,.i ((i:Int)+1),.ref 0 0,.ref 0 0,.ref 0 0,.t (.sl 3 (l.map tokT)),.i (l.map tokT).length,.b false,.b false,.b false,.t (.v undef),.t (.v undef),.t (.v undef),.t (.v undef),.t (.v undef),.t (.v undef),.t (.v undef),.t (.v undef),.t (.v undef),.t (.v undef),.t (.v undef),.t (.v undef),.t (.v undef),.b false,.b false] ?_ ?_
    ·repeat' (first|refine wkt ?_|refine wd h1 ?_|exact trivial|exact⟨⟨rfl,rfl⟩,trivial⟩|refine qav (fun env=>?_) ?_|refine wk ?_|exact wkc|refine wk2 ?_ ?_|intro hc)
     done
    ·exact zweg
theorem zzi:Maps.Keyed Tryz.prog 9:=Maps.string_keyed Tryz.underlying9
theorem keyP{s:Str}(h:s.length≤1000000000):∃l,keyOf Tryz.prog 9 (str s)=some l:=by
 exact zwbn
theorem zpM{a b:Str}(h:str a=str b):a=b:=by
 exact zwer
abbrev opL (l:List (Str×Int)):List (Value×T):=l.map fun e=>(str e.1,.v (.int .i64 e.2))
abbrev opB (l:List (Str×Int)):Blk:=.map 9 3 (opL l)
def zmf(l:List (Str×Int))(s:Str):Option Int:=(l.find? fun e=>decide (e.1=s)).map fun e=>e.2
structure OpOk (l:List (Str×Int)):Prop where
 nodup:(l.map fun e=>e.1).Nodup
 short:∀e∈l,e.1.length≤1000000000
theorem OpOk.keys{l:List (Str×Int)}(h:OpOk l):zhI Tryz.prog 9 (opL l):=by
 intro j e he;rw[qan]at he;cases hq:l[j]? with
 | none=>rw[hq]at he;cases he
 | some s=>rw[hq]at he;cases he;exact keyP (h.short s (qau hq))
theorem zv9{l:List (Str×Int)}(h:OpOk l)(s:Str):zlf (opL l) (str s) ((zmf l s).map fun v=>.v (.int .i64 v)):=by
 unfold zmf;cases hf:l.find? (fun e=>decide (e.1=s)) with
 | none=>
   rw[qcv]at hf;intro j e he e2;rw[qan]at he;cases hq:l[j]? with
   | none=>rw[hq]at he;cases he
   | some x=>
     rw[hq]at he;cases he
     exact hf x (qau hq) (by simpa using zpM e2)
 | some e=>
   have hm:=qb9 hf;have hp:=List.find?_some hf;simp only[decide_eq_true_eq]at hp;obtain⟨j,hj⟩:=qbg hm;refine⟨j,by simp[opL,hj,hp],fun j' t' h'=>?_⟩;rw[qan]at h';cases hq:l[j']? with
   | none=>rw[hq]at h';cases h'
   | some x=>
     rw[hq]at h';simp only[qaT,qaI,qbt]at h';have h1:=zpM h'.1;have e1:(l.map fun e=>e.1)[j']?=some s:=by simp[hq,h1]
     have e2:(l.map fun e=>e.1)[j]?=some s:=by simp[hj,hp]
     exact(qcF (qaa.1 e1).1 h.nodup).1 (e1.trans e2.symm)
section
variable {n:Nat}{K:TK}{all:Array Oper}{rest:List Oper}{d id:Nat}{ty:TypeId}{pos:String}{aft:Array Edge}{x y w:Operand}{q:Bool}
theorem TO.zsj{P:Program}{t:TypeId}(k:TO false P n all (⟨none,.mapUpdate t x y w,ty,pos,aft,none⟩::rest) env H K):TO false P n all (⟨none,.insert t x y w,ty,pos,aft,none⟩::rest) env H K:=by
 unfold Go.TL.TO at k⊢;intro φ m a h1 h2 h3 h4;have h:=k φ m a h1 h2 h3 h4;simp only[wpListIn]at h⊢;rw[oG (show Region.wanted _ _=true from rfl)]at h⊢;unfold Oper.wpIn at h⊢;refine⟨fun _ _=>trivial,?_⟩
 have e:∀r,Oper.semAt r a.eval ⟨none,.insert t x y w,ty,pos,aft,none⟩=Oper.semAt r a.eval ⟨none,.mapUpdate t x y w,ty,pos,aft,none⟩:=fun r=>by
  rw[Oper.semAt_eq _ _ _ (by intro c e;cases e),Oper.semAt_eq _ _ _ (by intro c e;cases e)];simp only[execOp]
 rw[e];have h5:=h.2;unfold Oper.uponIn at h5⊢;exact h5
theorem TO.zf8{l:List (Str×Int)}{s:Str}{v:Int}{H':Heap}(hx:env.val x=some (.mp id))(hH:H[id]?=some (opB l))(hy:env.val y=some (.s s))(hw:env.val w=some (.i v))(hl:OpOk l)(hn:zmf l s=none)(hs:s.length≤1000000000)
  (hH':setS H id (opB (l++[(s,v)]))=some H')(kk:TO false Tryz.prog n all rest env H' K):
  TO false Tryz.prog n all (⟨none,.insert 279 x y w,ty,pos,aft,none⟩::rest) env H K:=by
 have hg:=zv9 hl s;rw[hn]at hg;refine TO.zsj ?_;exact TO.mapUpdate zaf rfl rfl zzi hx hH hl.keys hy (kx:=str s) (fun m v h=>h.v_eq) (keyP hs) hw rfl (.inr ⟨hg,by rw[opL,qaw];rfl⟩) (zgI hH').symm kk
theorem TO.zmf{l:List (Str×Int)}{s:Str}(hd:Nat.ble (d+1) n=true)(hx:env.val x=some (.mp id))(hH:H[id]?=some (opB l))(hy:env.val y=some (.s s))(hl:OpOk l)(hs:s.length≤1000000000)
  {r:Option Int}(hr:Go.Proofs.YtdicfgideclbdaaGreatDoor.zmf l s=r)(k:TO q Tryz.prog n all rest ((d,.tup [.i (r.getD 0),.b r.isSome])::env) H K):
  TO q Tryz.prog n all (⟨some d,.lookup 279 x y true,ty,pos,aft,none⟩::rest) env H K:=by
 refine TO.lookup zaf hd rfl rfl rfl rfl rfl zzi hx hH hl.keys hy (kx:=str s) (fun m v h=>h.v_eq) (keyP hs) (zv9 hl s) ?_;rw[hr];cases r <;> exact k
end
def opsL(n:Int):List (Str×Int):=
 if n=0 then[([111,114],4),([120,111,114],5)]
 else if n=1 then[([97,110,100],3)]
 else if n=3 then[([61],11),([60,62],12),([60],13),([60,61],14),([62],15),([62,61],16)]
 else if n=4 then[([43],6),([45],7)]
 else[([42],8),([47],9),([109,111,100],10)]
theorem zxZ(n:Int):OpOk (opsL n):=by
 unfold opsL;split
 ·exact⟨oB,oB⟩
 split
 ·exact⟨oB,oB⟩
 split
 ·exact⟨oB,oB⟩
 split
 ·exact⟨oB,oB⟩
 ·exact⟨oB,oB⟩
theorem zlq (n:Int):Sound Tryz.prog 196 [.i n] [] (fun r H'=>r= .ret (.mp 0)/\H'=[opB (opsL n)]):=by
 have e0:OpOk []:=⟨qbI,oC⟩;unfold opsL;split
 ·refine so Tryz.func196 ?_;repeat' (first|refine wu ?_|exact wkc|refine wk2 ?_ ?_|(apply TO.makeMap 9 3;exact rfl)|(refine TO.zf8 (id:=0) (l:=[]) rfl rfl rfl rfl ⟨oB,oB⟩ oB (leB) rfl ?_)|(refine TO.zf8 (id:=0) (l:=[([111,114],4)]) rfl rfl rfl rfl ⟨oB,oB⟩ oB (leB) rfl ?_)|intro hc)
  exact zwfg
 split
 ·refine so Tryz.func196 ?_;repeat' (first|refine wu ?_|exact wkc|refine wk2 ?_ ?_|(apply TO.makeMap 9 3;exact rfl)|(refine TO.zf8 (id:=0) (l:=[]) rfl rfl rfl rfl ⟨oB,oB⟩ oB (leB) rfl ?_)|intro hc)
  exact zwfg
 split
 ·refine so Tryz.func196 ?_;repeat' (first|refine wu ?_|exact wkc|refine wk2 ?_ ?_|(apply TO.makeMap 9 3;exact rfl)|(refine TO.zf8 (id:=0) (l:=[]) rfl rfl rfl rfl ⟨oB,oB⟩ oB (leB) rfl ?_)|(refine TO.zf8 (id:=0) (l:=[([61],11)]) rfl rfl rfl rfl ⟨oB,oB⟩ oB (leB) rfl ?_)|(refine TO.zf8 (id:=0) (l:=[([61],11),([60,62],12)]) rfl rfl rfl rfl ⟨oB,oB⟩ oB (leB) rfl ?_)|(refine TO.zf8 (id:=0) (l:=[([61],11),([60,62],12),([60],13)]) rfl rfl rfl rfl ⟨oB,oB⟩ oB (leB) rfl ?_)|(refine TO.zf8 (id:=0) (l:=[([61],11),([60,62],12),([60],13),([60,61],14)]) rfl rfl rfl rfl ⟨oB,oB⟩ oB (leB) rfl ?_)|(refine TO.zf8 (id:=0) (l:=[([61],11),([60,62],12),([60],13),([60,61],14),([62],15)]) rfl rfl rfl rfl ⟨oB,oB⟩ oB (leB) rfl ?_)|intro hc)
  exact zwfg
 split
 ·refine so Tryz.func196 ?_;repeat' (first|refine wu ?_|exact wkc|refine wk2 ?_ ?_|(apply TO.makeMap 9 3;exact rfl)|(refine TO.zf8 (id:=0) (l:=[]) rfl rfl rfl rfl ⟨oB,oB⟩ oB (leB) rfl ?_)|(refine TO.zf8 (id:=0) (l:=[([43],6)]) rfl rfl rfl rfl ⟨oB,oB⟩ oB (leB) rfl ?_)|intro hc)
  exact zwfg
 ·refine so Tryz.func196 ?_;repeat' (first|refine wu ?_|exact wkc|refine wk2 ?_ ?_|(apply TO.makeMap 9 3;exact rfl)|(refine TO.zf8 (id:=0) (l:=[]) rfl rfl rfl rfl ⟨oB,oB⟩ oB (leB) rfl ?_)|(refine TO.zf8 (id:=0) (l:=[([42],8)]) rfl rfl rfl rfl ⟨oB,oB⟩ oB (leB) rfl ?_)|(refine TO.zf8 (id:=0) (l:=[([42],8),([47],9)]) rfl rfl rfl rfl ⟨oB,oB⟩ oB (leB) rfl ?_)|intro hc)
  exact zwfg
end Go.Proofs.YtdicfgideclbdaaGreatDoor
