import Derived.Shelf.LaysM
import Derived.KernelRfl
import Derived.Shelf.Strings.OnBuilder
import Derived.Shelf.Strings.Repeat
import Derived.Shelf.Strconv.Itoa3
import Derived.Shelf.SlSorted.Search
import Derived.Test.YthmbhfgflijapaaGreatDoorPk16
import Derived.Test.YthmbhfgflijapaaGreatDoorPk24
set_option linter.all false
namespace Go.Proofs.YthmbhfgflijapaaGreatDoor
open Go Go.TL
attribute [local irreducible] TR TO Then zag RetK Sound zab Kf GG zaK
abbrev rdr (l:List Tok)(es:List En):Rd:=⟨l.map fun t=>(t.1,t.2.1),es⟩
abbrev rdB (l:List Tok)(n:Int)(es:List En)(i:Nat):Blk:=.cells [.t (.sl 3 (l.map tokT)),.i n,.i i,.t (.sl 2 (es.map enT))]
def placeOf(l:List Tok)(n:Int)(k:Nat):Int:=match l[k]? with
 | some t=>t.2.2
 | none=>n
abbrev zgq (l:List Tok)(n:Int)(k:Nat)(c:Int):SV:=.ifc 115 (.t (.ag [T.i (placeOf l n k),T.i c]))
def PR.code{α:Type}:PR α->Int
 | .ok _ _=>0
 | .er _ c=>c
def PR.at{α:Type}:PR α->Nat
 | .ok _ i=>i
 | .er k _=>k
def PR.vl{α:Type}(d:α):PR α->α
 | .ok v _=>v
 | .er _ _=>d
abbrev RdS {α:Type}(l:List Tok)(n:Int)(es:List En)(f:FuncId)(args:List SV)(i:Nat)(r:PR α)(v:SV):Prop:=
 Sound Tryz.prog f (.ref 0 0::args) [rdB l n es i] (Err r.code v (zgq l n r.at r.code) [rdB l n es r.at])
theorem zal(l:List Tok)(es:List En):(rdr l es).K.length=l.length:=qab _
theorem zeO{l:List Tok}{k:Nat}(h:k<l.length):(l.map tokT)[k]?=some (.ag [T.i l[k].1,.s l[k].2.1,T.i l[k].2.2]):=zbj tokT h
theorem zrm(l:List Tok)(n:Int)(es:List En)(i k:Nat)(hl:l.length≤1000000):Sound Tryz.prog 85 [.ref 0 0,.i k] [rdB l n es i] (fun r H'=>r= .ret (.i (placeOf l n k))/\H'=[rdB l n es i]):=by
 have hml:(l.map tokT).length=l.length:=qab _
 unfold placeOf
 by_cases hk:k<l.length
 ·have hx:=zeO hk
  rw[qac hk]
  generalize l[k]=t at*
  exact zwcc
 ·rw[qa7 (by omega)]
  exact zwcc
theorem zb8(l:List Tok)(n:Int)(es:List En)(i k:Nat)(c:Int)(hc0:c≠0)(hl:l.length≤1000000):Sound Tryz.prog 50 [.ref 0 0,.i k,.i c] [rdB l n es i] (Err c (.tup []) (zgq l n k c) [rdB l n es k]):=by
 have ha:=zrm l n es i k hl
 refine Sound.err rfl (fun _=>rfl) ?_
 refine so Tryz.func50 ?_
 repeat' (first|refine wu ?_|exact wkc|intro hc|refine wk2 ?_ ?_|(apply TO.makeInterface;exact rfl;kernel_rfl;exact rfl)|(apply TO.panic;exact rfl)|refine wd ha ?_|fail)
 exact RetK.errP hc0 rfl rfl rfl
theorem zof(l:List Tok)(n:Int)(es:List En)(i k:Nat)(s:Str)(hl:l.length≤1000000):Sound Tryz.prog 128 [.ref 0 0,.i k,.s s] [rdB l n es i] (fun r H'=>r= .ret (.b ((rdr l es).isAt k s))/\H'=[rdB l n es i]):=by
 have hml:(l.map tokT).length=l.length:=qab _
 unfold Rd.isAt
 simp only[qar]
 by_cases hk:k<l.length
 ·have hx:=zeO hk
  rw[qac hk]
  generalize l[k]=t at*
  simp only[qaW]
  refine so Tryz.func128 ?_
  repeat' (first|refine wu ?_|exact wkc|intro hc|refine wk2 ?_ ?_|fail)
  all_goals exact zwcp
 ·rw[qa7 (by omega)]
  refine so Tryz.func128 ?_
  repeat' (first|refine wu ?_|exact wkc|intro hc|refine wk2 ?_ ?_|fail)
  exact zwfr
theorem zbx(l:List Tok)(n:Int)(es:List En)(i:Nat)(s:Str)(hl:l.length≤1000000):Sound Tryz.prog 84 [.ref 0 0,.s s] [rdB l n es i] (fun r H'=>r= .ret (.b ((rdr l es).isAt i s))/\H'=[rdB l n es i]):=by
 have h:=zof l n es i i s hl
 refine so Tryz.func84 ?_
 repeat' (first|refine wu ?_|exact wkc|intro hc|refine wk2 ?_ ?_|refine wd h ?_|fail)
 exact zwfr
theorem zaG(l:List Tok)(n:Int)(es:List En)(i:Nat)(k:Int)(hl:l.length≤1000000):Sound Tryz.prog 126 [.ref 0 0,.i k] [rdB l n es i] (fun r H'=>r= .ret (.b ((rdr l es).kind i k))/\H'=[rdB l n es i]):=by
 have hml:(l.map tokT).length=l.length:=qab _
 unfold Rd.kind
 simp only[qar]
 by_cases hk:i<l.length
 ·have hx:=zeO hk
  rw[qac hk]
  generalize l[i]=t at*
  simp only[qaW]
  refine so Tryz.func126 ?_
  repeat' (first|refine wu ?_|exact wkc|intro hc|refine wk2 ?_ ?_|fail)
  all_goals exact zwcp
 ·rw[qa7 (by omega)]
  refine so Tryz.func126 ?_
  repeat' (first|refine wu ?_|exact wkc|intro hc|refine wk2 ?_ ?_|fail)
  exact zwfr
theorem zam(l:List Tok)(n:Int)(es:List En)(i:Nat)(s:Str)(hl:l.length≤1000000)(hi:i≤l.length):Sound Tryz.prog 49 [.ref 0 0,.s s] [rdB l n es i] (fun r H'=>r= .ret (.b ((rdr l es).isAt i s))/\H'=[rdB l n es (if(rdr l es).isAt i s=true then i+1 else i)]):=by
 have h:=zbx l n es i s hl
 generalize (rdr l es).isAt i s=b at*
 cases b
 all_goals
  refine so Tryz.func49 ?_
  repeat' (first|refine wu ?_|exact wkc|intro hc|refine wk2 ?_ ?_|refine wd h ?_|fail)
  exact RetK.keep 1 rfl (Le.refl _) rfl rfl rfl rfl rfl ⟨rfl,rfl⟩
section
variable {l:List Tok}{n:Int}{es:List En}{α:Type}{r:PR α}{rs:List ResultVar}{env:Env}{H:Heap}{v:SV}{j k:Nat}{c:Int}
theorem rdP(h:r= .er k c)(hc:c≠0)(hN:Nat.ble 1 H.length=true:=by exact rfl)(hb:zaa H.length H=true:=by exact rfl):RetK tab rs 1 (Err0 r.code v (zgq l n r.at r.code) [rdB l n es r.at] 1) (.panic (zgq l n k c)) env H:=by
 subst h;exact RetK.errP hc hN rfl hb
theorem rdV{x:α}{vs:List SV}(h:r= .ok x j)(hr:zb1 tab env H rs=some vs)(hl:Le (pack vs) v)(hu:v.under 1=true)(hk:Nat.ble 1 H.length=true)(ht:H.take 1=[rdB l n es j]):RetK tab rs 1 (Err0 r.code v (zgq l n r.at r.code) [rdB l n es r.at] 1) .ret env H:=by
 subst h;exact RetK.errV rfl hr hl rfl hk hu ht rfl
theorem rdN{x:α}{vs:List SV}(h:r= .ok x j)(hr:zb1 tab env H rs=some vs)(hl:Le (pack vs) v)(hu:v.under 1=true)(hk:Nat.ble 1 H.length=true)(ht:H.take 1=[rdB l n es j]):RetK tab rs 1 (Err0 r.code v (zgq l n r.at r.code) [rdB l n es r.at] 1) .normal env H:=by
 subst h;exact RetK.errN rfl hr hl rfl hk hu ht rfl
end
theorem zmV{l:List Str}{k:Nat}(h:k<l.length):(l.map T.s)[k]?=some (T.s l[k]):=by simp[h]
set_option maxHeartbeats 1000000 in
theorem zb6 (l:List Tok) (n:Int) (es:List En) (i:Nat) (ss:List Str) (hl:l.length≤1000000) (hi:i≤l.length) (hs:ss.length≤1000):RdS l n es 158 [.t (.sl 1 (ss.map T.s))] i ((rdr l es).must ss i) (.tup []):=by
 have hml:(ss.map T.s).length=ss.length:=qab _
 have h0:(rdr l es).must ss i=(rdr l es).must (ss.drop 0) (i+0):=rfl
 generalize (rdr l es).must ss i=r at*
 refine Sound.err rfl (fun _=>rfl) ?_
 refine so Tryz.func158 ?_
 repeat' (first|refine wu ?_|exact wkc|intro hc|refine wk2 ?_ ?_|fail)
 refine TR.zaA ss.length (fun k=>r=(rdr l es).must (ss.drop k) (i+k)/\i+k≤l.length) (fun k=>[(0,.ref 0 0),(6,.t (.sl 1 (ss.map T.s))),(7,.i (ss.map T.s).length),(8,.i k)]) (fun k=>[rdB l n es (i+k:Nat)]) ⟨h0,hi⟩ (fun k hlt ha=>?_) (fun ha=>?_)
 ·obtain⟨ha,hk⟩:=ha
  have hx:=zmV hlt
  rw[qaT hlt,Rd.must]at ha
  have ht:=zam l n es (i+k) ss[k] hl hk
  have hf:=zb8 l n es (i+k) (i+k) 5 (by decide) hl
  have hlt2:=@zaE (rdr l es) (i+k) ss[k]
  rw[zal]at hlt2
  generalize ss[k]=s at*
  generalize (rdr l es).isAt (i+k) s=b at*
  cases b with
  | true=>
    rw[if_pos rfl]at ha ht
    repeat' (first|refine wu ?_|exact wkc|intro hc|refine wk2 ?_ ?_|refine wd ht ?_|fail)
    exact zab.zaI hlt ⟨ha,by have:=hlt2 rfl;omega⟩
  | false=>
    rw[if_neg (by decide)]at ha ht
    repeat' (first|refine wu ?_|exact wkc|intro hc|refine wk2 ?_ ?_|refine wd ht ?_|refine we hf ?_ ?_|fail)
    repeat' (first|refine zab.panic ?_|refine wk ?_|fail)
    exact rdP ha (by decide)
 ·obtain⟨ha,hk⟩:=ha
  rw[qaY (qae _)]at ha
  repeat' (first|refine wu ?_|exact wkc|intro hc|refine wk2 ?_ ?_|fail)
  exact rdN (vs:=[]) ha rfl (Le.refl _) rfl rfl rfl
theorem zfu(l:List Tok)(n:Int)(es:List En)(i:Nat)(hl:l.length≤1000000)(hi:i≤l.length):RdS l n es 160 [] i ((rdr l es).id i) (.s (((rdr l es).id i).vl [])):=by
 have hml:(l.map tokT).length=l.length:=qab _
 have hk:=zaG l n es i 1 hl
 have hf:=zb8 l n es i i 5 (by decide) hl
 have hlt:=@ze3 (rdr l es) i 1
 rw[zal]at hlt
 have hr:(rdr l es).id i=if(rdr l es).kind i 1=true then .ok ((rdr l es).txt i) (i+1) else .er i 5:=rfl
 have htx:∀h:i<l.length,(rdr l es).txt i=l[i].2.1:=fun h=>by
  exact zwee
 generalize (rdr l es).id i=r at*
 generalize (rdr l es).kind i 1=b at*
 refine Sound.err rfl (fun _=>rfl) ?_
 cases b with
 | true=>
   have hx:=zeO (hlt rfl)
   rw[if_pos rfl,htx (hlt rfl)]at hr
   have hlt:=hlt rfl
   have hx':(l.map tokT)[((i:Int)+1-1).toNat]?=some (.ag [T.i l[i].1,.s l[i].2.1,T.i l[i].2.2]):=by rw[show((i:Int)+1-1).toNat=i by omega];exact hx
   clear htx
   generalize l[i]=t at*
   refine so Tryz.func160 ?_
   repeat' (first|refine wu ?_|exact wkc|intro hc|refine wk2 ?_ ?_|refine wd hk ?_|fail)
   apply rdV hr
   ·exact rfl
   ·rw[hr];exact Le.refl _
   all_goals exact rfl
 | false=>
   rw[if_neg (by decide)]at hr
   refine so Tryz.func160 ?_
   repeat' (first|refine wu ?_|exact wkc|intro hc|refine wk2 ?_ ?_|refine wd hk ?_|refine we hf ?_ ?_|fail)
   exact rdP hr (by decide)
def idxS(s:Str)(l:List Str):Int:=match idxOf s 0 l with
 | some k=>(k:Int)
 | none=>-1
theorem zoc{s:Str}{l:List Str}{k:Nat}(h:k<l.length):idxOf s k (l.drop k)=if l[k]=s then some k else idxOf s (k+1) (l.drop (k+1)):=by
 rw[qaT h,idxOf]
theorem zkD(l:List Str)(s:Str)(hl:l.length≤1000000000):Pure Tryz.prog 166 [.t (.sl 1 (l.map T.s)),.s s] (.i (idxS s l)):=by
 have hml:(l.map T.s).length=l.length:=qab _
 have h0:idxS s l=match idxOf s 0 (l.drop 0)with|some k=>(k:Int)|none=>-1:=rfl
 generalize idxS s l=z at*
 refine so Tryz.func166 ?_
 repeat' (first|refine wu ?_|exact wkc|intro hc|refine wk2 ?_ ?_|fail)
 refine TR.zaA l.length (fun k=>z=match idxOf s k (l.drop k)with|some k=>(k:Int)|none=>-1) (fun k=>[(0,.t (.sl 1 (l.map T.s))),(1,.s s),(7,.i (l.map T.s).length),(8,.i k)]) (fun _=>[]) h0 (fun k hlt ha=>?_) (fun ha=>?_)
 ·have hx:=zmV hlt
  rw[zoc hlt]at ha
  generalize l[k]=t at*
  repeat' (first|refine wu ?_|exact wkc|intro hc|refine wk2 ?_ ?_|fail)
  ·rw[if_pos (Eq.symm (by assumption))]at ha
   subst ha
   exact wkr
  ·rw[if_neg (fun h=>by first|exact absurd h.symm (by assumption)|exact absurd h (by assumption))]at ha
   exact zab.zaI hlt ha
 ·rw[qaY (qae _)]at ha
  repeat' (first|refine wu ?_|exact wkc|intro hc|refine wk2 ?_ ?_|fail)
  subst ha
  exact wkr
theorem RdS.ok{α:Type}{l:List Tok}{n:Int}{es:List En}{f:FuncId}{args:List SV}{i:Nat}{x:α}{j:Nat}{v:SV}(h:RdS l n es f args i (.ok x j) v):Sound Tryz.prog f (.ref 0 0::args) [rdB l n es i] (Err 0 v (zgq l n j 0) [rdB l n es j]):=h
theorem RdS.er{α:Type}{l:List Tok}{n:Int}{es:List En}{f:FuncId}{args:List SV}{i:Nat}{k:Nat}{c:Int}{v:SV}(h:RdS (α:=α) l n es f args i (.er k c) v):Sound Tryz.prog f (.ref 0 0::args) [rdB l n es i] (Err c v (zgq l n k c) [rdB l n es k]):=h
structure EsOk (es:List En):Prop where
 len:es.length≤3000000
 tags:∀u∈es,u.tags.length≤3000000
def tagR:Option (Nat×Nat)->SV
 | some tv=>.tup [.i (tv.1:Nat),.i (tv.2:Nat),.b true]
 | none=>.tup [.i 0,.i 0,.b false]
theorem zjq{s:Str}:∀ {l:List Str} {k j:Nat},idxOf s k l=some j->k≤j/\j<k+l.length
 | [],_,_,h=>by cases h
 | t::l,k,j,h=>by
   rw[idxOf]at h
   split at h
   ·cases h;simp
   ·have:=zjq h
    simp only[qal];omega
theorem zll{s:Str}{es:List En}{k:Nat}(h:k<es.length):zbi s k (es.drop k)=match idxOf s 0 es[k].tags with|some j=>some (3+k,j)|none=>zbi s (k+1) (es.drop (k+1)):=by
 rw[qaT h,zbi]
 cases idxOf s 0 es[k].tags <;> rfl
theorem zi1{s:Str}:∀ {es:List En} {k:Nat} {tv:Nat×Nat},zbi s k es=some tv->3+k≤tv.1/\tv.1<3+k+es.length/\∃u,es[tv.1-3-k]?=some u/\tv.2<u.tags.length
 | [],_,_,h=>by cases h
 | u::es,k,tv,h=>by
   rw[zbi]at h
   cases hq:idxOf s 0 u.tags with
   | some j=>
     rw[hq]at h;cases h
     have:=zjq hq
     exact⟨qae _,by simp,u,by simp,by simpa using this.2⟩
   | none=>
     rw[hq]at h
     obtain⟨h1,h2,w,h3,h4⟩:=zi1 h
     refine⟨by omega,by simp only[qal];omega,w,?_,h4⟩
     rw[show tv.1-3-k=(tv.1-3-(k+1))+1 by omega]
     simpa using h3
set_option maxHeartbeats 1000000 in
theorem zgd (l:List Tok) (n:Int) (es:List En) (i:Nat) (s:Str) (he:EsOk es):Sound Tryz.prog 162 [.ref 0 0,.s s] [rdB l n es i] (fun r H'=>r= .ret (tagR ((rdr l es).tag s))/\H'=[rdB l n es i]):=by
 have hml:(es.map enT).length=es.length:=qab _
 have hle:=he.len
 have h0:(rdr l es).tag s=zbi s 0 (es.drop 0):=rfl
 generalize (rdr l es).tag s=z at*
 refine so Tryz.func162 ?_
 repeat' (first|refine wu ?_|exact wkc|intro hc|refine wk2 ?_ ?_|fail)
 refine TR.zaA es.length (fun k=>z=zbi s k (es.drop k)) (fun k=>[(0,.ref 0 0),(1,.s s),(13,.t (.sl 2 (es.map enT))),(14,.i (es.map enT).length),(15,.i k)]) (fun _=>[rdB l n es i]) h0 (fun k hlt ha=>?_) (fun ha=>?_)
 ·have hx:=zbj enT hlt
  rw[zll hlt]at ha
  have hu:=he.tags _ (qaf hlt)
  generalize es[k]=u at*
  have hs:=zkD u.tags s (by omega)
  unfold enT at hx
  have hid:idxS s u.tags=match idxOf s 0 u.tags with|some k=>(k:Int)|none=>-1:=rfl
  have hlt2:=fun j=>@zjq s u.tags 0 j
  generalize idxS s u.tags=w at*
  cases hq:idxOf s 0 u.tags with
  | some j=>
    rw[hq]at ha hid
    have:=hlt2 j hq
    simp only at ha hid
    subst ha hid
    repeat' (first|refine wkt ?_|refine wka ?_|refine wk ?_|exact wkc|intro hc|refine wk2 ?_ ?_|refine wv hs ?_|fail)
    all_goals first
     | exact RetK.keep 1 rfl (Le.refl _) rfl rfl rfl rfl rfl ⟨rfl,rfl⟩
     | (exfalso;omega)
  | none=>
    rw[hq]at ha hid
    simp only at ha hid
    subst hid
    repeat' (first|refine wkt ?_|refine wka ?_|refine wk ?_|exact wkc|intro hc|refine wk2 ?_ ?_|refine wv hs ?_|fail)
    all_goals first
     | exact zab.zaI hlt ha
     | exact zab.zvx 1 hlt ha rfl rfl rfl rfl rfl
 ·rw[qaY (qae _)]at ha
  subst ha
  repeat' (first|refine wu ?_|exact wkc|intro hc|refine wk2 ?_ ?_|fail)
  exact zwfr
set_option maxHeartbeats 1000000 in
theorem zg4 (l:List Tok) (n:Int) (es:List En) (i:Nat) (hl:l.length≤1000000) (hi:i≤l.length) (he:EsOk es):
  RdS l n es 163 [] i ((rdr l es).aTag i) (.tup [.i ((((rdr l es).aTag i).vl (0,0)).1:Nat),.i ((((rdr l es).aTag i).vl (0,0)).2:Nat)]):=by
 have ht1:=zam l n es i [116,114,117,101] hl hi
 have ht2:=zam l n es i [102,97,108,115,101] hl hi
 have hid:=zfu l n es i hl hi
 have hr:(rdr l es).aTag i=(rdr l es).aTag i:=rfl
 conv at hr=>rhs;unfold Rd.aTag
 have hin:=zkB (R:=rdr l es) (i:=i) (by rw[zal];exact hi)
 rw[zal]at hin
 generalize (rdr l es).aTag i=r at*
 generalize (rdr l es).isAt i [116,114,117,101]=b1 at*
 generalize (rdr l es).isAt i [102,97,108,115,101]=b2 at*
 refine Sound.err rfl (fun _=>rfl) ?_
 cases b1 with
 | true=>
   rw[if_pos rfl]at hr ht1
   refine so Tryz.func163 ?_
   repeat' (first|refine wu ?_|exact wkc|intro hc|refine wk2 ?_ ?_|refine wd ht1 ?_|fail)
   apply rdV hr
   ·exact rfl
   ·rw[hr];exact Le.refl _
   all_goals exact rfl
 | false=>
 rw[if_neg (by decide)]at hr ht1
 cases b2 with
 | true=>
   rw[if_pos rfl]at hr ht2
   refine so Tryz.func163 ?_
   repeat' (first|refine wu ?_|exact wkc|intro hc|refine wk2 ?_ ?_|refine wd ht1 ?_|refine wd ht2 ?_|fail)
   apply rdV hr
   ·exact rfl
   ·rw[hr];exact Le.refl _
   all_goals exact rfl
 | false=>
 rw[if_neg (by decide)]at hr ht2
 cases hq:(rdr l es).id i with
 | er k c=>
   rw[hq]at hid hr hin
   have hc0:=hin.2
   replace hid:=hid.er
   refine so Tryz.func163 ?_
   repeat' (first|refine wu ?_|exact wkc|intro hc|refine wk2 ?_ ?_|refine wd ht1 ?_|refine wd ht2 ?_|refine we hid ?_ ?_|fail)
   exact rdP hr hc0
 | ok s j=>
   rw[hq]at hid hr hin
   obtain⟨hj1,hj2⟩:=hin
   have htg:=zgd l n es j s he
   have hf:=zb8 l n es j (j-1) 6 (by decide) hl
   rw[show((j-1:Nat):Int)=(j:Int)-1 by omega]at hf
   simp only[PR.bind]at hr
   replace hid:=hid.ok
   cases hq2:(rdr l es).tag s with
   | some tv=>
     rw[hq2]at htg hr
     unfold tagR at htg
     refine so Tryz.func163 ?_
     repeat' (first|refine wu ?_|exact wkc|intro hc|refine wk2 ?_ ?_|refine wd ht1 ?_|refine wd ht2 ?_|refine we hid ?_ ?_|refine wd htg ?_|fail)
     apply rdV hr
     ·exact rfl
     ·rw[hr];exact Le.refl _
     all_goals exact rfl
   | none=>
     rw[hq2]at htg hr
     unfold tagR at htg
     refine so Tryz.func163 ?_
     repeat' (first|refine wu ?_|exact wkc|intro hc|refine wk2 ?_ ?_|refine wd ht1 ?_|refine wd ht2 ?_|refine we hid ?_ ?_|refine wd htg ?_|refine we hf ?_ ?_|fail)
     exact rdP hr (by decide)
theorem zqQ{l:List Tok}{es:List En}(he:EsOk es){s:Str}{tv:Nat×Nat}(h:(rdr l es).tag s=some tv):3≤tv.1/\tv.1<3+es.length/\∃u,es[tv.1-3]?=some u/\tv.2<u.tags.length:=by
 obtain⟨h1,h2,u,h3,h4⟩:=zi1 (k:=0) h
 exact⟨by omega,by simpa using h2,u,by simpa using h3,h4⟩
theorem zev{l:List Tok}{es:List En}(he:EsOk es){i j:Nat}{tv:Nat×Nat}(h:(rdr l es).aTag i= .ok tv j):(tv.1≤6000000/\tv.2≤3000000)/\(tv.1=1/\tv.2≤1\/3≤tv.1/\∃u,es[tv.1-3]?=some u/\tv.2<u.tags.length):=by
 unfold Rd.aTag at h
 split at h
 ·exact zwfz
 ·split at h
  ·exact zwfz
  ·cases hq:(rdr l es).id i with
   | er k c=>rw[hq]at h;cases h
   | ok s j2=>
     rw[hq]at h
     simp only[PR.bind]at h
     cases hq2:(rdr l es).tag s with
     | none=>rw[hq2]at h;cases h
     | some x=>
       rw[hq2]at h
       cases h
       obtain⟨h1,h2,u,h3,h4⟩:=zqQ he hq2
       have:=he.len
       have:=he.tags u (qas h3)
       exact⟨⟨by omega,by omega⟩,.inr ⟨h1,u,h3,h4⟩⟩
theorem vlE{α:Type}(d v:α)(j:Nat):PR.vl d (.ok v j)=v:=rfl
theorem zd0{x:Int}(h:-9223372036854775808≤x/\x≤9223372036854775807):(toI x).1=x:=by unfold toI;rw[dif_pos h]
set_option maxHeartbeats 1000000 in
theorem zhO (l:List Tok) (n:Int) (es:List En) (i:Nat) (hl:l.length≤1000000) (hi:i≤l.length) (he:EsOk es) (d:OnC):
  RdS l n es 125 [] i ((rdr l es).sampling i) (.t (onT (((rdr l es).sampling i).vl d))):=by
 have h1:=zg4 l n es i hl hi he
 have hr:(rdr l es).sampling i=(rdr l es).sampling i:=rfl
 conv at hr=>rhs;unfold Rd.sampling
 have hin:=zi9 (R:=rdr l es) (i:=i) (by rw[zal];exact hi)
 rw[zal]at hin
 generalize (rdr l es).sampling i=r at*
 refine Sound.err rfl (fun _=>rfl) ?_
 cases hq1:(rdr l es).aTag i with
 | er k c=>
   rw[hq1]at h1 hr hin
   have hc0:=hin.2
   replace h1:=h1.er
   refine so Tryz.func125 ?_
   repeat' (first|refine wu ?_|exact wkc|intro hc|refine wk2 ?_ ?_|refine we h1 ?_ ?_|fail)
   exact rdP hr hc0
 | ok tv j=>
 rw[hq1]at h1 hr hin
 replace h1:=h1.ok
 obtain⟨_,hj⟩:=hin
 have h2:=zb6 l n es j [[40]] hl hj (by decide)
 have hin:=zbN (R:=rdr l es) [[40]] (i:=j) (by rw[zal];exact hj)
 rw[zal]at hin
 simp only[PR.bind]at hr
 cases hq2:(rdr l es).must [[40]] j with
 | er k c=>
   rw[hq2]at h2 hr hin
   have hc0:=hin.2
   replace h2:=h2.er
   refine so Tryz.func125 ?_
   repeat' (first|refine wu ?_|exact wkc|intro hc|refine wk2 ?_ ?_|refine we h1 ?_ ?_|refine we h2 ?_ ?_|fail)
   exact rdP hr hc0
 | ok _ j2=>
 rw[hq2]at h2 hr hin
 replace h2:=h2.ok
 obtain⟨_,hj2⟩:=hin
 have h3:=zfu l n es j2 hl hj2
 have hin:=zkB (R:=rdr l es) (i:=j2) (by rw[zal];exact hj2)
 rw[zal]at hin
 simp only[PR.bind]at hr
 cases hq3:(rdr l es).id j2 with
 | er k c=>
   rw[hq3]at h3 hr hin
   have hc0:=hin.2
   replace h3:=h3.er
   refine so Tryz.func125 ?_
   repeat' (first|refine wu ?_|exact wkc|intro hc|refine wk2 ?_ ?_|refine we h1 ?_ ?_|refine we h2 ?_ ?_|refine we h3 ?_ ?_|fail)
   exact rdP hr hc0
 | ok s j3=>
 rw[hq3]at h3 hr hin
 replace h3:=h3.ok
 obtain⟨_,hj3⟩:=hin
 have h4:=zb6 l n es j3 [[41]] hl hj3 (by decide)
 have hin:=zbN (R:=rdr l es) [[41]] (i:=j3) (by rw[zal];exact hj3)
 rw[zal]at hin
 simp only[PR.bind]at hr
 cases hq4:(rdr l es).must [[41]] j3 with
 | er k c=>
   rw[hq4]at h4 hr hin
   have hc0:=hin.2
   replace h4:=h4.er
   refine so Tryz.func125 ?_
   repeat' (first|refine wu ?_|exact wkc|intro hc|refine wk2 ?_ ?_|refine we h1 ?_ ?_|refine we h2 ?_ ?_|refine we h3 ?_ ?_|refine we h4 ?_ ?_|fail)
   exact rdP hr hc0
 | ok _ j4=>
 rw[hq4]at h4 hr
 replace h4:=h4.ok
 simp only at hr
 rw[vlE]at h1 h3
 have htv:(tv.1:Int)≤9223372036854775807/\(tv.2:Int)≤9223372036854775807:=by
  have:=zev he hq1
  omega
 have e1:=zd0 (x:=tv.1) (by omega)
 have e2:=zd0 (x:=tv.2) (by omega)
 refine so Tryz.func125 ?_
 repeat' (first|refine wu ?_|exact wkc|intro hc|refine wk2 ?_ ?_|refine we h1 ?_ ?_|refine we h2 ?_ ?_|refine we h3 ?_ ?_|refine we h4 ?_ ?_|fail)
 apply rdV hr
 ·exact rfl
 ·rw[hr,vlE]
  show Le _ (.t (.ag [.s s,T.i (toI tv.1).1,T.i (toI tv.2).1]))
  rw[e1,e2]
  exact Le.tree rfl (TLe.refl _)
 all_goals exact rfl
theorem rgS{n:Nat}{env0 envF:Env}{H0:Heap}{K:TK}{id':Nat}{l:List Oper}(t:List SV)
  (hp:zjZ Tryz.prog n K True l.toArray (zbT l.toArray t env0) H0 l (t.map fun v=>(v,false)))(hK:K .normal envF H0)
  (hB:mixB l.toArray (t.map fun _=>false)=true:=by dsimp only[List.map];decide +kernel)(hne:0<l.length:=by decide)(hE:zbK (zbT l.toArray t env0)=some envF:=by exact rfl):
  TR Tryz.prog n (.region id' l.toArray true) env0 H0 K:=by
 have e1:(t.map fun v=>(v,false)).map (·.1)=t:=by rw[qa8];exact qcy t
 have e2:(t.map fun v=>(v,false)).map (·.2)=t.map fun _=>false:=by rw[qa8];rfl
 exact TR.zjD (t.map fun v=>(v,false)) hmix (by rw[e2];exact hB) (by rw[e1];exact hp) (by rw[e1];exact hE) hne fun _=>hK
set_option maxHeartbeats 4000000 in
theorem zbO (l:List Tok) (n:Int) (es:List En) (i:Nat) (hl:l.length≤1000000) (hi:i≤l.length):Sound Tryz.prog 123 [.ref 0 0] [rdB l n es i] (fun r H'=>r= .ret (.b ((rdr l es).neg i))/\H'=[rdB l n es i]):=by
 have hml:(l.map tokT).length=l.length:=qab _
 have h1:=zbx l n es i [45] hl
 have hr:(rdr l es).neg i=((rdr l es).isAt i [45] && (rdr l es).kind (i+1) 2):=rfl
 have hk:(rdr l es).kind (i+1) 2=match l[i+1]? with|some t=>decide (t.1=2)|none=>false:=by
  unfold Rd.kind
  simp only[qar]
  cases l[i+1]? <;> rfl
 generalize (rdr l es).neg i=b at*
 generalize (rdr l es).kind (i+1) 2=bk at*
 generalize (rdr l es).isAt i [45]=b1 at*
 subst hr
 cases b1 with
 | false=>
   refine so Tryz.func123 ?_
   refine wkt ?_
   refine rgS [.ref 0 0,.b false,.b false,.t (.v undef),.t (.v undef),.t (.v undef),.t (.v undef),.t (.v undef),.t (.v undef),.t (.v undef),.t (.v undef),.t (.v undef),.t (.v undef),.t (.v undef),.b false,.b false,.t (.v undef),.t (.v undef),.t (.v undef),.t (.v undef),.t (.v undef),.t (.v undef),.t (.v undef),.t (.v undef),.t (.v undef),.t (.v undef),.t (.v undef),.t (.v undef),.t (.v undef),.b false,.b false] ?_ ?_
   ·repeat' (first|refine wkt ?_|refine wd h1 ?_|exact trivial|exact⟨⟨rfl,rfl⟩,trivial⟩|refine qai (fun env=>?_) ?_|refine wk ?_|exact wkc|intro hc|refine wk2 ?_ ?_|fail)
    done
   ·repeat' (first|refine wu ?_|exact wkc|intro hc|refine wk2 ?_ ?_|fail)
    exact zwfr
 | true=>
   by_cases hlt:i+1<l.length
   ·have hx:=zeO hlt
    have hx':(l.map tokT)[((i:Int)+1).toNat]?=some (.ag [T.i l[i+1].1,.s l[i+1].2.1,T.i l[i+1].2.2]):=by rw[show((i:Int)+1).toNat=i+1 by omega];exact hx
    rw[qac hlt]at hk
    simp only at hk
    generalize l[i+1]=t at*
    by_cases h2:t.1=2
    ·rw[decide_eq_true h2]at hk
     subst hk
     refine so Tryz.func123 ?_
     refine wkt ?_
     refine rgS [.ref 0 0,.b true,.b true,.ref 0 0,.ref 0 0,.ref 0 2,.i i,.i ((i:Int)+1),.ref 0 0,.ref 0 0,.ref 0 0,.t (.sl 3 (l.map tokT)),.i (l.map tokT).length,.b true,.b true,.b true,.ref 0 0,.ref 0 0,.ref 0 0,.t (.sl 3 (l.map tokT)),.ref 0 0,.ref 0 0,.ref 0 2,.i i,.i ((i:Int)+1),.cp [T.i t.1,.s t.2.1,T.i t.2.2] 0,.cp [T.i t.1,.s t.2.1,T.i t.2.2] 0,.i t.1,.b true,.b true,.b true] ?_ ?_
     ·repeat' (first|refine wkt ?_|refine wd h1 ?_|exact trivial|exact⟨⟨rfl,rfl⟩,trivial⟩|refine qai (fun env=>?_) ?_|refine wk ?_|exact wkc|intro hc|refine wk2 ?_ ?_|fail)
      done
     ·repeat' (first|refine wu ?_|exact wkc|intro hc|refine wk2 ?_ ?_|fail)
      exact zwfr
    ·rw[decide_eq_false h2]at hk
     subst hk
     refine so Tryz.func123 ?_
     refine wkt ?_
     refine rgS [.ref 0 0,.b true,.b true,.ref 0 0,.ref 0 0,.ref 0 2,.i i,.i ((i:Int)+1),.ref 0 0,.ref 0 0,.ref 0 0,.t (.sl 3 (l.map tokT)),.i (l.map tokT).length,.b true,.b true,.b true,.ref 0 0,.ref 0 0,.ref 0 0,.t (.sl 3 (l.map tokT)),.ref 0 0,.ref 0 0,.ref 0 2,.i i,.i ((i:Int)+1),.cp [T.i t.1,.s t.2.1,T.i t.2.2] 0,.cp [T.i t.1,.s t.2.1,T.i t.2.2] 0,.i t.1,.b false,.b false,.b false] ?_ ?_
     ·repeat' (first|refine wkt ?_|refine wd h1 ?_|exact trivial|exact⟨⟨rfl,rfl⟩,trivial⟩|refine qai (fun env=>?_) ?_|refine wk ?_|exact wkc|intro hc|refine wk2 ?_ ?_|fail)
      done
     ·repeat' (first|refine wu ?_|exact wkc|intro hc|refine wk2 ?_ ?_|fail)
      exact zwfr
   ·rw[qa7 (by omega)]at hk
    simp only at hk
    subst hk
    refine so Tryz.func123 ?_
    refine wkt ?_
    refine rgS [.ref 0 0,.b true,.b true,.ref 0 0,.ref 0 0,.ref 0 2,.i i,.i ((i:Int)+1),.ref 0 0,.ref 0 0,.ref 0 0,.t (.sl 3 (l.map tokT)),.i (l.map tokT).length,.b false,.b false,.b false,.t (.v undef),.t (.v undef),.t (.v undef),.t (.v undef),.t (.v undef),.t (.v undef),.t (.v undef),.t (.v undef),.t (.v undef),.t (.v undef),.t (.v undef),.t (.v undef),.t (.v undef),.b false,.b false] ?_ ?_
    ·repeat' (first|refine wkt ?_|refine wd h1 ?_|exact trivial|exact⟨⟨rfl,rfl⟩,trivial⟩|refine qai (fun env=>?_) ?_|refine wk ?_|exact wkc|intro hc|refine wk2 ?_ ?_|fail)
     done
    ·repeat' (first|refine wu ?_|exact wkc|intro hc|refine wk2 ?_ ?_|fail)
     exact zwfr
end Go.Proofs.YthmbhfgflijapaaGreatDoor
namespace Go.Proofs.YthmbhfgflijapaaGreatDoor
open Go Go.Shelf Go.Proofs
def renF:Nat->Nat
 | 99=>93
 | 104=>151
 | 105=>58
 | 109=>166
 | 110=>144
 | 121=>112
 | 129=>182
 | 145=>150
 | 156=>30
 | 165=>59
 | 166=>57
 | 169=>32
 | 170=>94
 | 171=>113
 | 206=>133
 | 207=>172
 | 211=>168
 | 212=>92
 | 214=>154
 | 217=>177
 | 219=>171
 | 220=>167
 | 224=>179
 | 225=>178
 | 240=>91
 | 241=>95
 | 243=>155
 | 246=>169
 | 263=>131
 | 264=>132
 | 266=>186
 | 267=>180
 | 276=>130
 | 277=>134
 | 283=>173
 | 284=>174
 | 285=>175
 | 286=>176
 | 314=>187
 | 317=>181
 | 318=>183
 | 319=>184
 | 320=>185
 | 337=>188
 | 338=>189
 | 347=>190
 | 348=>191
 | 349=>192
 | 350=>193
 | 351=>194
 | 352=>195
 | 353=>196
 | 354=>197
 | 355=>198
 | 356=>199
 | 357=>200
 | 358=>201
 | 359=>202
 | 360=>203
 | 361=>204
 | 362=>206
 | 366=>207
 | 367=>213
 | n=>n
def renT:Nat->Nat
 | 22=>181
 | 24=>28
 | 25=>234
 | 26=>140
 | 27=>248
 | 31=>36
 | 32=>245
 | 33=>230
 | 37=>81
 | 41=>207
 | 42=>204
 | 46=>178
 | 47=>258
 | 51=>216
 | 52=>260
 | 53=>219
 | 54=>250
 | 55=>254
 | 59=>232
 | 60=>233
 | 67=>87
 | 70=>80
 | 71=>82
 | 72=>83
 | 73=>102
 | 74=>136
 | 75=>137
 | 76=>138
 | 77=>139
 | 80=>89
 | 81=>182
 | 83=>205
 | 84=>246
 | 101=>193
 | 103=>238
 | 104=>117
 | 109=>179
 | 110=>180
 | 111=>145
 | 112=>231
 | 114=>170
 | 127=>144
 | 131=>147
 | 132=>169
 | 146=>217
 | 147=>218
 | 148=>220
 | 149=>221
 | 151=>259
 | 164=>214
 | 165=>215
 | 166=>222
 | 171=>249
 | 172=>251
 | 173=>252
 | 174=>253
 | 211=>255
 | 212=>256
 | 213=>257
 | 229=>242
 | 232=>261
 | 233=>262
 | 238=>263
 | 239=>264
 | 240=>265
 | 241=>266
 | 242=>267
 | 243=>268
 | 244=>269
 | 245=>270
 | 246=>271
 | 247=>272
 | 248=>273
 | 249=>274
 | n=>n
def renG:Nat->Nat
 | 1=>0
 | 17=>1
 | 18=>2
 | 19=>3
 | n=>n
def ren:Ren:=⟨renF,renT,renG⟩
set_option maxRecDepth 100000 in
theorem zuB:Lays.n171 Tryz.prog ren:=by
 constructor <;> first|kernel_rfl|(intro w;kernel_rfl)
set_option maxRecDepth 100000 in
theorem zvP:LaysM.n171 Tryz.prog ren:=by
 constructor <;> first|exact zuB|kernel_rfl|(intro w;kernel_rfl)
set_option maxRecDepth 100000 in
theorem ztb:Lays.n156 Tryz.prog ren:=by
 constructor <;> first|kernel_rfl|(intro w;kernel_rfl)
set_option maxRecDepth 100000 in
theorem zsn:Lays.n105 Tryz.prog ren:=by
 constructor <;> first|kernel_rfl|(intro w;kernel_rfl)
end Go.Proofs.YthmbhfgflijapaaGreatDoor
namespace Go.Proofs.YthmbhfgflijapaaGreatDoor
open Go Go.TL Go.Shelf
theorem zmd{w w':World}(h:RowKit.Below w.heap.size w w'):Keeps w w':=⟨h.os,h.tape,h.output,h.size,h.block⟩
theorem znW(w:World):RowKit.Below w.heap.size w w:=⟨rfl,rfl,rfl,qae _,fun _ _=>rfl⟩
theorem zf6{f:FuncId}{args:List SV}{l:Str}(hc:Callable Tryz.prog f)
  (h:∀(m:M) (vs:Array Value),HRel m->m.H=[]->ARel m args vs->Calls Tryz.prog f vs m.w fun e w'=>e= .returned (str l)/\RowKit.Below m.w.heap.size m.w w'):Pure Tryz.prog f args (.s l):=by
 unfold Go.TL.Pure Go.TL.Sound
 refine⟨hc,fun m vs h1 h2 h3=>Calls.mono (h m vs h2 h1 h3) ?_⟩
 rintro e w' ⟨rfl,hb⟩
 obtain⟨st,hm⟩:=zcJ h2 (zmd hb)
 exact⟨_,.ret (.s l),rfl,st,hm,.t _ _ (.v _),rfl,h1⟩
theorem zwR:Go.Proofs.Builder.X72 Tryz.prog ren:=by constructor <;> kernel_rfl
theorem zmu:Go.Proofs.Builder.Extra Tryz.prog ren:=by
 constructor <;> first|exact zwR|kernel_rfl|(intro w;kernel_rfl)|decide
theorem zmc(n:Int)(h:-9223372036854775808≤n/\n≤9223372036854775807):Pure Tryz.prog 113 [.i n] (.s (Go.Lib.itoa n)):=by
 refine zf6 ⟨_,Tryz.func113,by kernel_rfl,rfl⟩ fun m vs hm _ hA=>?_
 obtain⟨g1,g2⟩:=hA
 match vs,g1,g2 with
 | ⟨[x]⟩,_,g2=>
   have hx:=(g2 0 _ x rfl rfl).v_eq
   subst hx
   have ht:Go.Lib.TabIs Tryz.prog m.w "internal/strconv.uint64pow10" .u64 Go.Lib.pow10Tab:=by
    obtain⟨_,e,f,hg⟩:=hm.glob gPow powA zrN
    unfold Go.Lib.TabIs World.var?
    rw[show Tryz.prog.globalNamed "internal/strconv.uint64pow10"=some gPow by kernel_rfl]
    simp only[Option.bind_some]
    rw[hg]
    kernel_rfl
   refine Calls.mono (Go.Proofs.Any.strconv_Itoa zvP n h.1 h.2 m.w ht) ?_
   rintro e w' ⟨rfl,k,os,rfl⟩
   exact⟨rfl,Go.Proofs.below_grown_sl _ _ _ _ (qae _)⟩
theorem zjE(s:Str)(c:Nat)(hc:c≤9223372036854775807)(hl:s.length*c≤140737488355328):Pure Tryz.prog 58 [.s s,.i c] (.s (Go.Lib.repeatL s c)):=by
 refine zf6 ⟨_,Tryz.func58,by kernel_rfl,rfl⟩ fun m vs hm _ hA=>?_
 obtain⟨g1,g2⟩:=hA
 match vs,g1,g2 with
 | ⟨[x,y]⟩,_,g2=>
   have hx:=(g2 0 _ x rfl rfl).v_eq
   have hy:=(g2 1 _ y rfl rfl).v_eq
   subst hx hy
   refine Calls.mono (Go.Proofs.Any.strings_Repeat zsn zmu ⟨s.toArray⟩ c m.w hc (by simpa [ByteArray.size]using hl)) ?_
   rintro e w' ⟨rfl,hb⟩
   exact⟨rfl,hb⟩
theorem zcs(l:List Str)(sep:Str)(hl:l.length≤140737488355328)(hj:(Go.Lib.join l sep).length≤140737488355328):Pure Tryz.prog 30 [.t (.sl 1 (l.map T.s)),.s sep] (.s (Go.Lib.join l sep)):=by
 refine zf6 ⟨_,Tryz.func30,by kernel_rfl,rfl⟩ fun m vs hm _ hA=>?_
 obtain⟨g1,g2⟩:=hA
 match vs,g1,g2 with
 | ⟨[x,y]⟩,_,g2=>
   have hx:=g2 0 _ x rfl rfl
   have hy:=(g2 1 _ y rfl rfl).v_eq
   subst hy
   have hnone:∀a c,l=[]->Calls Tryz.prog 30 #[.slice a 0 c,str sep] m.w fun e w'=>e= .returned (str (Go.Lib.join l sep))/\RowKit.Below m.w.heap.size m.w w':=fun a c he=>by
    refine Calls.mono (Go.Proofs.Any.strings_Join_none ztb zmu a c ⟨sep.toArray⟩ m.w) ?_
    rintro e w' ⟨rfl,rfl⟩
    subst he
    exact⟨rfl,znW _⟩
   generalize hq:T.sl 1 (l.map T.s)=q at hx
   cases hx with
   | t _ _ hx=>
   cases hx with
   | v x=>cases hq
   | ag=>cases hq
   | nil sz=>
     injection hq with _ h2
     exact hnone _ _ (List.map_eq_nil_iff.1 h2)
   | empty sz a=>
     injection hq with _ h2
     exact hnone _ _ (List.map_eq_nil_iff.1 h2)
   | sl sz es b off cap f hcap hsz hA2 hw h1 hr=>
     injection hq with e1 e2
     subst e1 e2
     rw[qab]
     rw[qab]at hcap hA2 hw h1
     by_cases hne:l=[]
     ·have h0:=hnone (some ⟨b,off,none⟩) cap hne
      rw[hne]at h0⊢
      exact h0
     ·have hpos:0<l.length:=qba.2 hne
      have hlen:(l.map fun s=>(⟨s.toArray⟩:ByteArray)).length=l.length:=qab _
      have hmm:(l.map fun s=>(⟨s.toArray⟩:ByteArray)).map (·.data.toList)=l:=by
       rw[qa8]
       exact(List.map_congr_left fun _ _=>rfl).trans (qcy l)
      have hc:=Go.Proofs.Any.strings_Join ztb zmu b off cap (l.map fun s=>⟨s.toArray⟩) ⟨sep.toArray⟩ m.w (fun j x hx=>by
       rw[qar]at hx
       cases hq:l[j]? with
       | none=>rw[hq]at hx;cases hx
       | some s=>
         rw[hq]at hx;cases hx
         have hjl:=(qaa.1 hq).1
         have g:=hr j (T.s s) 0 (T.s s) (by rw[qar,hq];rfl) rfl
         have e:=hw j 0 hjl (by decide)
         rw[g.zwX]at e
         have he:off+(j*1+0)=off+j:=by omega
         rw[he]at e
         exact e) (hm.inA b off (by have:=hA2 0 0 hpos (by decide);simpa using this)) (by rw[hlen];exact hl) (by rw[hlen];exact hcap) (by rw[hmm];exact hj)
      rw[hmm,hlen]at hc
      exact hc
end Go.Proofs.YthmbhfgflijapaaGreatDoor
