import Derived.Tactics
import Derived.Tactics2
import Derived.StillTactics
import Derived.Laws.AppendOwn
import Derived.Laws.Runes
import Derived.Laws.CopyRow
import Derived.Laws.Shifts
import Derived.Laws.Rows
import Derived.Laws.BitsLemmas
import Derived.Laws.Tables
import Derived.Laws.NewBlocks
import Derived.Laws.Unary
import Derived.Laws.Strings
import Derived.Laws.NewFold
import Derived.Laws.ShiftsVarLaws
import Derived.Laws.Bits
import Derived.Laws.Alloc2
import Derived.Laws.Bits128
import Derived.Laws.Strings2
import Derived.Laws.Wrap64
import Derived.Laws.ShiftsVar
import Derived.Laws.Closers25
import Derived.Laws.RangeString
import Derived.Laws.Concat
import Derived.Laws.Cells
import Derived.Laws.NewDeep
import Derived.Laws.Pointers
import Derived.Laws.StructEq
import Derived.Laws.Closers25b
import Derived.Laws.StandIn
import Derived.Laws.Bits64b
import Derived.Laws.LoneSync
import Derived.Laws.ByValue
import Derived.Laws.MathBits
import Derived.Laws.Externs
import Derived.Laws.BitsAll
import Derived.Laws.BitsAllLaws
import Derived.Laws.Bits64
import Derived.Laws.OwnMore
import Derived.Laws.Build
import Derived.Laws.ResultCell
import Derived.Laws.Entries
import Derived.Laws.Append
import Derived.Laws.RangeAny
import Derived.Laws.World
import Derived.Laws.Strings3
import Derived.Laws.Sem
import Derived.Laws.Slices
import Derived.Laws.MakeOwn
import Derived.Laws.Small
import Derived.Laws.BytesString
import Derived.Scope
import Derived.FnLit
import Derived.LoopTactic
import Derived.Test.YtpfnfpaahefdaaaGreatPk14
import Derived.Test.YtpfnfpaahefdaaaGreatPk17
set_option linter.all false
namespace Go.Proofs.YtpfnfpaahefdaaaGreat
open Go Go.TL
attribute [local irreducible] TR TO Then zab RetK Sound zac Kf GG za2
abbrev rdr (l:List Tok)(es:List En):Rd:=⟨l.map fun t=>(t.1,t.2.1),es⟩
abbrev rdB (l:List Tok)(n:Int)(es:List En)(i:Nat):Blk:=.cells [.t (.sl 3 (l.map tokT)),.i n,.i i,.t (.sl 2 (es.map enT))]
def placeOf(l:List Tok)(n:Int)(k:Nat):Int:=match l[k]? with
 | some t=>t.2.2
 | none=>n
abbrev zb6 (l:List Tok)(n:Int)(k:Nat)(c:Int):SV:=.ifc 98 (.t (.ag [T.i (placeOf l n k),T.i c]))
def PR.code{α:Type}:PR α->Int
 | .ok _ _=>0
 | .er _ c=>c
def PR.at{α:Type}:PR α->Nat
 | .ok _ i=>i
 | .er k _=>k
def PR.vl{α:Type}(d:α):PR α->α
 | .ok v _=>v
 | .er _ _=>d
abbrev RdS {α:Type}(l:List Tok)(n:Int)(es:List En)(f:FuncId)(args:List SV)(i:Nat)(r:PR α)(v:SV):Prop:=
 Sound Tryz.prog f (.ref 0 0::args) [rdB l n es i] (Err r.code v (zb6 l n r.at r.code) [rdB l n es r.at])
theorem zaf(l:List Tok)(es:List En):(rdr l es).K.length=l.length:=qad _
theorem zcK{l:List Tok}{k:Nat}(h:k<l.length):(l.map tokT)[k]?=some (.ag [T.i l[k].1,.s l[k].2.1,T.i l[k].2.2]):=zbW tokT h
theorem znO(l:List Tok)(n:Int)(es:List En)(i k:Nat)(hl:l.length≤1000000):Sound Tryz.prog 70 [.ref 0 0,.i k] [rdB l n es i] (fun r H'=>r= .ret (.i (placeOf l n k))/\H'=[rdB l n es i]):=by
 have hml:(l.map tokT).length=l.length:=qad _
 unfold placeOf
 by_cases hk:k<l.length
 ·have hx:=zcK hk
  rw[qab hk]
  generalize l[k]=t at*
  exact zwcc
 ·rw[qaG (by omega)]
  exact zwcc
theorem zbi(l:List Tok)(n:Int)(es:List En)(i k:Nat)(c:Int)(hc0:c≠0)(hl:l.length≤1000000):Sound Tryz.prog 43 [.ref 0 0,.i k,.i c] [rdB l n es i] (Err c (.tup []) (zb6 l n k c) [rdB l n es k]):=by
 have ha:=znO l n es i k hl
 exact zwz
theorem zlA(l:List Tok)(n:Int)(es:List En)(i k:Nat)(s:Str)(hl:l.length≤1000000):Sound Tryz.prog 66 [.ref 0 0,.i k,.s s] [rdB l n es i] (fun r H'=>r= .ret (.b ((rdr l es).isAt k s))/\H'=[rdB l n es i]):=by
 have hml:(l.map tokT).length=l.length:=qad _
 unfold Rd.isAt
 simp only[qar]
 by_cases hk:k<l.length
 ·have hx:=zcK hk
  rw[qab hk]
  generalize l[k]=t at*
  simp only[qaX]
  refine so Tryz.func66 ?_
  repeat' (first|refine wu ?_|exact wkc|intro hc|refine wk2 ?_ ?_|fail)
  all_goals exact zwcp
 ·rw[qaG (by omega)]
  refine so Tryz.func66 ?_
  repeat' (first|refine wu ?_|exact wkc|intro hc|refine wk2 ?_ ?_|fail)
  exact zwfs
theorem zaO(l:List Tok)(n:Int)(es:List En)(i:Nat)(s:Str)(hl:l.length≤1000000):Sound Tryz.prog 36 [.ref 0 0,.s s] [rdB l n es i] (fun r H'=>r= .ret (.b ((rdr l es).isAt i s))/\H'=[rdB l n es i]):=by
 have h:=zlA l n es i i s hl
 refine so Tryz.func36 ?_
 repeat' (first|refine wu ?_|exact wkc|intro hc|refine wk2 ?_ ?_|refine wd h ?_|fail)
 exact zwfs
theorem zaK(l:List Tok)(n:Int)(es:List En)(i:Nat)(k:Int)(hl:l.length≤1000000):Sound Tryz.prog 40 [.ref 0 0,.i k] [rdB l n es i] (fun r H'=>r= .ret (.b ((rdr l es).kind i k))/\H'=[rdB l n es i]):=by
 have hml:(l.map tokT).length=l.length:=qad _
 unfold Rd.kind
 simp only[qar]
 by_cases hk:i<l.length
 ·have hx:=zcK hk
  rw[qab hk]
  generalize l[i]=t at*
  simp only[qaX]
  refine so Tryz.func40 ?_
  repeat' (first|refine wu ?_|exact wkc|intro hc|refine wk2 ?_ ?_|fail)
  all_goals exact zwcp
 ·rw[qaG (by omega)]
  refine so Tryz.func40 ?_
  repeat' (first|refine wu ?_|exact wkc|intro hc|refine wk2 ?_ ?_|fail)
  exact zwfs
theorem zal(l:List Tok)(n:Int)(es:List En)(i:Nat)(s:Str)(hl:l.length≤1000000)(hi:i≤l.length):Sound Tryz.prog 41 [.ref 0 0,.s s] [rdB l n es i] (fun r H'=>r= .ret (.b ((rdr l es).isAt i s))/\H'=[rdB l n es (if(rdr l es).isAt i s=true then i+1 else i)]):=by
 have h:=zaO l n es i s hl
 generalize (rdr l es).isAt i s=b at*
 cases b
 all_goals
  refine so Tryz.func41 ?_
  repeat' (first|refine wu ?_|exact wkc|intro hc|refine wk2 ?_ ?_|refine wd h ?_|fail)
  exact RetK.keep 1 rfl (Le.refl _) rfl rfl rfl rfl rfl ⟨rfl,rfl⟩
section
variable {l:List Tok}{n:Int}{es:List En}{α:Type}{r:PR α}{rs:List ResultVar}{env:Env}{H:Heap}{v:SV}{j k:Nat}{c:Int}
theorem rdP(h:r= .er k c)(hc:c≠0)(hN:Nat.ble 1 H.length=true:=by exact rfl)(hb:zad H.length H=true:=by exact rfl):RetK tab rs 1 (Err0 r.code v (zb6 l n r.at r.code) [rdB l n es r.at] 1) (.panic (zb6 l n k c)) env H:=by
 subst h;exact RetK.errP hc hN rfl hb
theorem rdV{x:α}{vs:List SV}(h:r= .ok x j)(hr:zb1 tab env H rs=some vs)(hl:Le (pack vs) v)(hu:v.under 1=true)(hk:Nat.ble 1 H.length=true)(ht:H.take 1=[rdB l n es j]):RetK tab rs 1 (Err0 r.code v (zb6 l n r.at r.code) [rdB l n es r.at] 1) .ret env H:=by
 subst h;exact RetK.errV rfl hr hl rfl hk hu ht rfl
theorem rdN{x:α}{vs:List SV}(h:r= .ok x j)(hr:zb1 tab env H rs=some vs)(hl:Le (pack vs) v)(hu:v.under 1=true)(hk:Nat.ble 1 H.length=true)(ht:H.take 1=[rdB l n es j]):RetK tab rs 1 (Err0 r.code v (zb6 l n r.at r.code) [rdB l n es r.at] 1) .normal env H:=by
 subst h;exact RetK.errN rfl hr hl rfl hk hu ht rfl
end
theorem zhz{l:List Str}{k:Nat}(h:k<l.length):(l.map T.s)[k]?=some (T.s l[k]):=by simp[h]
set_option maxHeartbeats 1000000 in
theorem zb5 (l:List Tok) (n:Int) (es:List En) (i:Nat) (ss:List Str) (hl:l.length≤1000000) (hi:i≤l.length) (hs:ss.length≤1000):RdS l n es 39 [.t (.sl 1 (ss.map T.s))] i ((rdr l es).must ss i) (.tup []):=by
 have hml:(ss.map T.s).length=ss.length:=qad _
 have h0:(rdr l es).must ss i=(rdr l es).must (ss.drop 0) (i+0):=rfl
 generalize (rdr l es).must ss i=r at*
 refine Sound.err rfl (fun _=>rfl) ?_
 refine so Tryz.func39 ?_
 repeat' (first|refine wu ?_|exact wkc|intro hc|refine wk2 ?_ ?_|fail)
 refine TR.zbv ss.length (fun k=>r=(rdr l es).must (ss.drop k) (i+k)/\i+k≤l.length) (fun k=>[(0,.ref 0 0),(6,.t (.sl 1 (ss.map T.s))),(7,.i (ss.map T.s).length),(8,.i k)]) (fun k=>[rdB l n es (i+k:Nat)]) ⟨h0,hi⟩ (fun k hlt ha=>?_) (fun ha=>?_)
 ·obtain⟨ha,hk⟩:=ha
  have hx:=zhz hlt
  rw[qaF hlt,Rd.must]at ha
  have ht:=zal l n es (i+k) ss[k] hl hk
  have hf:=zbi l n es (i+k) (i+k) 5 (by decide) hl
  have hlt2:=@zam (rdr l es) (i+k) ss[k]
  rw[zaf]at hlt2
  generalize ss[k]=s at*
  generalize (rdr l es).isAt (i+k) s=b at*
  cases b with
  | true=>
    rw[if_pos rfl]at ha ht
    repeat' (first|refine wu ?_|exact wkc|intro hc|refine wk2 ?_ ?_|refine wd ht ?_|fail)
    exact zac.zb0 hlt ⟨ha,by have:=hlt2 rfl;omega⟩
  | false=>
    rw[if_neg (by decide)]at ha ht
    repeat' (first|refine wu ?_|exact wkc|intro hc|refine wk2 ?_ ?_|refine wd ht ?_|refine we hf ?_ ?_|fail)
    repeat' (first|refine zac.panic ?_|refine wk ?_|fail)
    exact rdP ha (by decide)
 ·obtain⟨ha,hk⟩:=ha
  rw[qaZ (qae _)]at ha
  repeat' (first|refine wu ?_|exact wkc|intro hc|refine wk2 ?_ ?_|fail)
  exact rdN (vs:=[]) ha rfl (Le.refl _) rfl rfl rfl
theorem zdT(l:List Tok)(n:Int)(es:List En)(i:Nat)(hl:l.length≤1000000)(hi:i≤l.length):RdS l n es 38 [] i ((rdr l es).id i) (.s (((rdr l es).id i).vl [])):=by
 have hml:(l.map tokT).length=l.length:=qad _
 have hk:=zaK l n es i 1 hl
 have hf:=zbi l n es i i 5 (by decide) hl
 have hlt:=@zcu (rdr l es) i 1
 rw[zaf]at hlt
 have hr:(rdr l es).id i=if(rdr l es).kind i 1=true then .ok ((rdr l es).txt i) (i+1) else .er i 5:=rfl
 have htx:∀h:i<l.length,(rdr l es).txt i=l[i].2.1:=fun h=>by
  exact zwep
 generalize (rdr l es).id i=r at*
 generalize (rdr l es).kind i 1=b at*
 refine Sound.err rfl (fun _=>rfl) ?_
 cases b with
 | true=>
   have hx:=zcK (hlt rfl)
   rw[if_pos rfl,htx (hlt rfl)]at hr
   have hlt:=hlt rfl
   have hx':(l.map tokT)[((i:Int)+1-1).toNat]?=some (.ag [T.i l[i].1,.s l[i].2.1,T.i l[i].2.2]):=by rw[show((i:Int)+1-1).toNat=i by omega];exact hx
   clear htx
   generalize l[i]=t at*
   refine so Tryz.func38 ?_
   repeat' (first|refine wu ?_|exact wkc|intro hc|refine wk2 ?_ ?_|refine wd hk ?_|fail)
   apply rdV hr
   ·exact rfl
   ·rw[hr];exact Le.refl _
   all_goals exact rfl
 | false=>
   rw[if_neg (by decide)]at hr
   refine so Tryz.func38 ?_
   repeat' (first|refine wu ?_|exact wkc|intro hc|refine wk2 ?_ ?_|refine wd hk ?_|refine we hf ?_ ?_|fail)
   exact rdP hr (by decide)
theorem ziG(l:List Tok)(n:Int)(es:List En)(i:Nat)(a most:Nat)(hl:l.length≤1000000):RdS l n es 37 [.i a,.i most] i (limR a most i) (.tup []):=by
 have hf:=zbi l n es i i 3 (by decide) hl
 unfold limR
 by_cases h:most≤a
 ·rw[if_pos h]
  refine Sound.err rfl (fun _=>rfl) ?_
  refine so Tryz.func37 ?_
  repeat' (first|refine wu ?_|exact wkc|intro hc|refine wk2 ?_ ?_|refine we hf ?_ ?_|fail)
  exact rdP rfl (by decide)
 ·rw[if_neg h]
  refine Sound.err rfl (fun _=>rfl) ?_
  refine so Tryz.func37 ?_
  repeat' (first|refine wu ?_|exact wkc|intro hc|refine wk2 ?_ ?_|refine we hf ?_ ?_|fail)
  exact rdN (vs:=[]) rfl rfl (Le.refl _) rfl rfl rfl
def idxS(s:Str)(l:List Str):Int:=match idxOf s 0 l with
 | some k=>(k:Int)
 | none=>-1
theorem zlx{s:Str}{l:List Str}{k:Nat}(h:k<l.length):idxOf s k (l.drop k)=if l[k]=s then some k else idxOf s (k+1) (l.drop (k+1)):=by
 rw[qaF h,idxOf]
theorem ziy(l:List Str)(s:Str)(hl:l.length≤1000000000):Pure Tryz.prog 117 [.t (.sl 1 (l.map T.s)),.s s] (.i (idxS s l)):=by
 have hml:(l.map T.s).length=l.length:=qad _
 have h0:idxS s l=match idxOf s 0 (l.drop 0)with|some k=>(k:Int)|none=>-1:=rfl
 generalize idxS s l=z at*
 refine so Tryz.func117 ?_
 repeat' (first|refine wu ?_|exact wkc|intro hc|refine wk2 ?_ ?_|fail)
 refine TR.zbv l.length (fun k=>z=match idxOf s k (l.drop k)with|some k=>(k:Int)|none=>-1) (fun k=>[(0,.t (.sl 1 (l.map T.s))),(1,.s s),(7,.i (l.map T.s).length),(8,.i k)]) (fun _=>[]) h0 (fun k hlt ha=>?_) (fun ha=>?_)
 ·have hx:=zhz hlt
  rw[zlx hlt]at ha
  generalize l[k]=t at*
  repeat' (first|refine wu ?_|exact wkc|intro hc|refine wk2 ?_ ?_|fail)
  ·rw[if_pos (Eq.symm (by assumption))]at ha
   subst ha
   exact wkr
  ·rw[if_neg (fun h=>by first|exact absurd h.symm (by assumption)|exact absurd h (by assumption))]at ha
   exact zac.zb0 hlt ha
 ·rw[qaZ (qae _)]at ha
  repeat' (first|refine wu ?_|exact wkc|intro hc|refine wk2 ?_ ?_|fail)
  subst ha
  exact wkr
theorem RdS.ok{α:Type}{l:List Tok}{n:Int}{es:List En}{f:FuncId}{args:List SV}{i:Nat}{x:α}{j:Nat}{v:SV}(h:RdS l n es f args i (.ok x j) v):Sound Tryz.prog f (.ref 0 0::args) [rdB l n es i] (Err 0 v (zb6 l n j 0) [rdB l n es j]):=h
theorem RdS.er{α:Type}{l:List Tok}{n:Int}{es:List En}{f:FuncId}{args:List SV}{i:Nat}{k:Nat}{c:Int}{v:SV}(h:RdS (α:=α) l n es f args i (.er k c) v):Sound Tryz.prog f (.ref 0 0::args) [rdB l n es i] (Err c v (zb6 l n k c) [rdB l n es k]):=h
structure EsOk (es:List En):Prop where
 len:es.length≤3000000
 tags:∀u∈es,u.tags.length≤3000000
def tagR:Option (Nat×Nat)->SV
 | some tv=>.tup [.i (tv.1:Nat),.i (tv.2:Nat),.b true]
 | none=>.tup [.i 0,.i 0,.b false]
theorem zhI{s:Str}:∀ {l:List Str} {k j:Nat},idxOf s k l=some j->k≤j/\j<k+l.length
 | [],_,_,h=>by cases h
 | t::l,k,j,h=>by
   rw[idxOf]at h
   split at h
   ·cases h;simp
   ·have:=zhI h
    simp only[qac];omega
theorem zi4{s:Str}{es:List En}{k:Nat}(h:k<es.length):zdE s k (es.drop k)=match idxOf s 0 es[k].tags with|some j=>some (3+k,j)|none=>zdE s (k+1) (es.drop (k+1)):=by
 rw[qaF h,zdE]
 cases idxOf s 0 es[k].tags <;> rfl
theorem zhp{s:Str}:∀ {es:List En} {k:Nat} {tv:Nat×Nat},zdE s k es=some tv->3+k≤tv.1/\tv.1<3+k+es.length/\∃u,es[tv.1-3-k]?=some u/\tv.2<u.tags.length
 | [],_,_,h=>by cases h
 | u::es,k,tv,h=>by
   rw[zdE]at h
   cases hq:idxOf s 0 u.tags with
   | some j=>
     rw[hq]at h;cases h
     have:=zhI hq
     exact⟨qae _,by simp,u,by simp,by simpa using this.2⟩
   | none=>
     rw[hq]at h
     obtain⟨h1,h2,w,h3,h4⟩:=zhp h
     refine⟨by omega,by simp only[qac];omega,w,?_,h4⟩
     rw[show tv.1-3-k=(tv.1-3-(k+1))+1 by omega]
     simpa using h3
set_option maxHeartbeats 1000000 in
theorem ze7 (l:List Tok) (n:Int) (es:List En) (i:Nat) (s:Str) (he:EsOk es):Sound Tryz.prog 107 [.ref 0 0,.s s] [rdB l n es i] (fun r H'=>r= .ret (tagR ((rdr l es).tag s))/\H'=[rdB l n es i]):=by
 have hml:(es.map enT).length=es.length:=qad _
 have hle:=he.len
 have h0:(rdr l es).tag s=zdE s 0 (es.drop 0):=rfl
 generalize (rdr l es).tag s=z at*
 refine so Tryz.func107 ?_
 repeat' (first|refine wu ?_|exact wkc|intro hc|refine wk2 ?_ ?_|fail)
 refine TR.zbv es.length (fun k=>z=zdE s k (es.drop k)) (fun k=>[(0,.ref 0 0),(1,.s s),(13,.t (.sl 2 (es.map enT))),(14,.i (es.map enT).length),(15,.i k)]) (fun _=>[rdB l n es i]) h0 (fun k hlt ha=>?_) (fun ha=>?_)
 ·have hx:=zbW enT hlt
  rw[zi4 hlt]at ha
  have hu:=he.tags _ (qaz hlt)
  generalize es[k]=u at*
  have hs:=ziy u.tags s (by omega)
  unfold enT at hx
  have hid:idxS s u.tags=match idxOf s 0 u.tags with|some k=>(k:Int)|none=>-1:=rfl
  have hlt2:=fun j=>@zhI s u.tags 0 j
  generalize idxS s u.tags=w at*
  cases hq:idxOf s 0 u.tags with
  | some j=>
    rw[hq]at ha hid
    have:=hlt2 j hq
    simp only at ha hid
    subst ha hid
    repeat' (first|refine wkt ?_|refine wka ?_|refine wk ?_|exact wkc|intro hc|refine wk2 ?_ ?_|refine wv hs ?_|fail)
    all_goals first
     | exact RetK.keep 1 rfl (Le.refl _) rfl rfl rfl rfl rfl ⟨rfl,rfl⟩
     | (exfalso;omega)
  | none=>
    rw[hq]at ha hid
    simp only at ha hid
    subst hid
    repeat' (first|refine wkt ?_|refine wka ?_|refine wk ?_|exact wkc|intro hc|refine wk2 ?_ ?_|refine wv hs ?_|fail)
    all_goals first
     | exact zac.zb0 hlt ha
     | exact zac.zmW 1 hlt ha rfl rfl rfl rfl rfl
 ·rw[qaZ (qae _)]at ha
  subst ha
  repeat' (first|refine wu ?_|exact wkc|intro hc|refine wk2 ?_ ?_|fail)
  exact zwfs
set_option maxHeartbeats 1000000 in
theorem zfP (l:List Tok) (n:Int) (es:List En) (i:Nat) (hl:l.length≤1000000) (hi:i≤l.length) (he:EsOk es):
  RdS l n es 108 [] i ((rdr l es).aTag i) (.tup [.i ((((rdr l es).aTag i).vl (0,0)).1:Nat),.i ((((rdr l es).aTag i).vl (0,0)).2:Nat)]):=by
 have ht1:=zal l n es i [116,114,117,101] hl hi
 have ht2:=zal l n es i [102,97,108,115,101] hl hi
 have hid:=zdT l n es i hl hi
 have hr:(rdr l es).aTag i=(rdr l es).aTag i:=rfl
 conv at hr=>rhs;unfold Rd.aTag
 have hin:=zea (R:=rdr l es) (i:=i) (by rw[zaf];exact hi)
 rw[zaf]at hin
 generalize (rdr l es).aTag i=r at*
 generalize (rdr l es).isAt i [116,114,117,101]=b1 at*
 generalize (rdr l es).isAt i [102,97,108,115,101]=b2 at*
 refine Sound.err rfl (fun _=>rfl) ?_
 cases b1 with
 | true=>
   rw[if_pos rfl]at hr ht1
   refine so Tryz.func108 ?_
   repeat' (first|refine wu ?_|exact wkc|intro hc|refine wk2 ?_ ?_|refine wd ht1 ?_|fail)
   apply rdV hr
   ·exact rfl
   ·rw[hr];exact Le.refl _
   all_goals exact rfl
 | false=>
 rw[if_neg (by decide)]at hr ht1
 cases b2 with
 | true=>
   rw[if_pos rfl]at hr ht2
   refine so Tryz.func108 ?_
   repeat' (first|refine wu ?_|exact wkc|intro hc|refine wk2 ?_ ?_|refine wd ht1 ?_|refine wd ht2 ?_|fail)
   apply rdV hr
   ·exact rfl
   ·rw[hr];exact Le.refl _
   all_goals exact rfl
 | false=>
 rw[if_neg (by decide)]at hr ht2
 cases hq:(rdr l es).id i with
 | er k c=>
   rw[hq]at hid hr hin
   have hc0:=hin.2
   replace hid:=hid.er
   refine so Tryz.func108 ?_
   repeat' (first|refine wu ?_|exact wkc|intro hc|refine wk2 ?_ ?_|refine wd ht1 ?_|refine wd ht2 ?_|refine we hid ?_ ?_|fail)
   exact rdP hr hc0
 | ok s j=>
   rw[hq]at hid hr hin
   obtain⟨hj1,hj2⟩:=hin
   have htg:=ze7 l n es j s he
   have hf:=zbi l n es j (j-1) 6 (by decide) hl
   rw[show((j-1:Nat):Int)=(j:Int)-1 by omega]at hf
   simp only[PR.bind]at hr
   replace hid:=hid.ok
   cases hq2:(rdr l es).tag s with
   | some tv=>
     rw[hq2]at htg hr
     unfold tagR at htg
     refine so Tryz.func108 ?_
     repeat' (first|refine wu ?_|exact wkc|intro hc|refine wk2 ?_ ?_|refine wd ht1 ?_|refine wd ht2 ?_|refine we hid ?_ ?_|refine wd htg ?_|fail)
     apply rdV hr
     ·exact rfl
     ·rw[hr];exact Le.refl _
     all_goals exact rfl
   | none=>
     rw[hq2]at htg hr
     unfold tagR at htg
     refine so Tryz.func108 ?_
     repeat' (first|refine wu ?_|exact wkc|intro hc|refine wk2 ?_ ?_|refine wd ht1 ?_|refine wd ht2 ?_|refine we hid ?_ ?_|refine wd htg ?_|refine we hf ?_ ?_|fail)
     exact rdP hr (by decide)
theorem zns{l:List Tok}{es:List En}(he:EsOk es){s:Str}{tv:Nat×Nat}(h:(rdr l es).tag s=some tv):3≤tv.1/\tv.1<3+es.length/\∃u,es[tv.1-3]?=some u/\tv.2<u.tags.length:=by
 obtain⟨h1,h2,u,h3,h4⟩:=zhp (k:=0) h
 exact⟨by omega,by simpa using h2,u,by simpa using h3,h4⟩
theorem zd1{l:List Tok}{es:List En}(he:EsOk es){i j:Nat}{tv:Nat×Nat}(h:(rdr l es).aTag i= .ok tv j):(tv.1≤6000000/\tv.2≤3000000)/\(tv.1=1/\tv.2≤1\/3≤tv.1/\∃u,es[tv.1-3]?=some u/\tv.2<u.tags.length):=by
 unfold Rd.aTag at h
 split at h
 ·exact zwfv
 ·split at h
  ·exact zwfv
  ·cases hq:(rdr l es).id i with
   | er k c=>rw[hq]at h;cases h
   | ok s j2=>
     rw[hq]at h
     simp only[PR.bind]at h
     cases hq2:(rdr l es).tag s with
     | none=>rw[hq2]at h;cases h
     | some x=>
       rw[hq2]at h
       cases h
       obtain⟨h1,h2,u,h3,h4⟩:=zns he hq2
       have:=he.len
       have:=he.tags u (qaB h3)
       exact⟨⟨by omega,by omega⟩,.inr ⟨h1,u,h3,h4⟩⟩
theorem vlE{α:Type}(d v:α)(j:Nat):PR.vl d (.ok v j)=v:=rfl
theorem zci{x:Int}(h:-9223372036854775808≤x/\x≤9223372036854775807):(toI x).1=x:=by unfold toI;rw[dif_pos h]
set_option maxHeartbeats 1000000 in
theorem zdU (l:List Tok) (n:Int) (es:List En) (i:Nat) (hl:l.length≤1000000) (hi:i≤l.length) (he:EsOk es) (d:OnC):
  RdS l n es 95 [] i ((rdr l es).sampling i) (.t (onT (((rdr l es).sampling i).vl d))):=by
 have h1:=zfP l n es i hl hi he
 have hr:(rdr l es).sampling i=(rdr l es).sampling i:=rfl
 conv at hr=>rhs;unfold Rd.sampling
 have hin:=zhx (R:=rdr l es) (i:=i) (by rw[zaf];exact hi)
 rw[zaf]at hin
 generalize (rdr l es).sampling i=r at*
 refine Sound.err rfl (fun _=>rfl) ?_
 cases hq1:(rdr l es).aTag i with
 | er k c=>
   rw[hq1]at h1 hr hin
   have hc0:=hin.2
   replace h1:=h1.er
   refine so Tryz.func95 ?_
   repeat' (first|refine wu ?_|exact wkc|intro hc|refine wk2 ?_ ?_|refine we h1 ?_ ?_|fail)
   exact rdP hr hc0
 | ok tv j=>
 rw[hq1]at h1 hr hin
 replace h1:=h1.ok
 obtain⟨_,hj⟩:=hin
 have h2:=zb5 l n es j [[40]] hl hj (by decide)
 have hin:=zaQ (R:=rdr l es) [[40]] (i:=j) (by rw[zaf];exact hj)
 rw[zaf]at hin
 simp only[PR.bind]at hr
 cases hq2:(rdr l es).must [[40]] j with
 | er k c=>
   rw[hq2]at h2 hr hin
   have hc0:=hin.2
   replace h2:=h2.er
   refine so Tryz.func95 ?_
   repeat' (first|refine wu ?_|exact wkc|intro hc|refine wk2 ?_ ?_|refine we h1 ?_ ?_|refine we h2 ?_ ?_|fail)
   exact rdP hr hc0
 | ok _ j2=>
 rw[hq2]at h2 hr hin
 replace h2:=h2.ok
 obtain⟨_,hj2⟩:=hin
 have h3:=zdT l n es j2 hl hj2
 have hin:=zea (R:=rdr l es) (i:=j2) (by rw[zaf];exact hj2)
 rw[zaf]at hin
 simp only[PR.bind]at hr
 cases hq3:(rdr l es).id j2 with
 | er k c=>
   rw[hq3]at h3 hr hin
   have hc0:=hin.2
   replace h3:=h3.er
   refine so Tryz.func95 ?_
   repeat' (first|refine wu ?_|exact wkc|intro hc|refine wk2 ?_ ?_|refine we h1 ?_ ?_|refine we h2 ?_ ?_|refine we h3 ?_ ?_|fail)
   exact rdP hr hc0
 | ok s j3=>
 rw[hq3]at h3 hr hin
 replace h3:=h3.ok
 obtain⟨_,hj3⟩:=hin
 have h4:=zb5 l n es j3 [[41]] hl hj3 (by decide)
 have hin:=zaQ (R:=rdr l es) [[41]] (i:=j3) (by rw[zaf];exact hj3)
 rw[zaf]at hin
 simp only[PR.bind]at hr
 cases hq4:(rdr l es).must [[41]] j3 with
 | er k c=>
   rw[hq4]at h4 hr hin
   have hc0:=hin.2
   replace h4:=h4.er
   refine so Tryz.func95 ?_
   repeat' (first|refine wu ?_|exact wkc|intro hc|refine wk2 ?_ ?_|refine we h1 ?_ ?_|refine we h2 ?_ ?_|refine we h3 ?_ ?_|refine we h4 ?_ ?_|fail)
   exact rdP hr hc0
 | ok _ j4=>
 rw[hq4]at h4 hr
 replace h4:=h4.ok
 simp only at hr
 rw[vlE]at h1 h3
 have htv:(tv.1:Int)≤9223372036854775807/\(tv.2:Int)≤9223372036854775807:=by
  have:=zd1 he hq1
  omega
 have e1:=zci (x:=tv.1) (by omega)
 have e2:=zci (x:=tv.2) (by omega)
 refine so Tryz.func95 ?_
 repeat' (first|refine wu ?_|exact wkc|intro hc|refine wk2 ?_ ?_|refine we h1 ?_ ?_|refine we h2 ?_ ?_|refine we h3 ?_ ?_|refine we h4 ?_ ?_|fail)
 apply rdV hr
 ·exact rfl
 ·rw[hr,vlE]
  show Le _ (.t (.ag [.s s,T.i (toI tv.1).1,T.i (toI tv.2).1]))
  rw[e1,e2]
  exact Le.tree rfl (TLe.refl _)
 all_goals exact rfl
theorem zm1(l:Str)(c:UInt8):numV (l++[c])=10*numV l+((c.toNat:Int)-48):=by
 unfold numV
 rw[qb8];rfl
theorem zkI:∀(l:Str) (a:Int),0≤a->(∀c∈l,48≤c.toNat/\c.toNat≤57)->0≤l.foldl (fun(n:Int) (c:UInt8)=>10*n+((c.toNat:Int)-48)) a/\l.foldl (fun(n:Int) (c:UInt8)=>10*n+((c.toNat:Int)-48)) a<(a+1)*10 ^ l.length
 | [],a,h,_=>⟨h,by simp only[List.foldl_nil,qaf,Int.pow_zero];omega⟩
 | c::l,a,h,hd=>by
   have h1:=hd c (by simp)
   have h2:=zkI l (10*a+((c.toNat:Int)-48)) (by omega) fun x hx=>hd x (by simp[hx])
   rw[qbJ,qac,Int.pow_succ]
   refine⟨h2.1,Int.lt_of_lt_of_le h2.2 ?_⟩
   rw[Int.mul_comm (10 ^ l.length) 10,<-Int.mul_assoc]
   exact Int.mul_le_mul_of_nonneg_right (by omega) (Int.pow_nonneg (by decide))
theorem zhd{l:Str}(h:∀c∈l,48≤c.toNat/\c.toNat≤57):0≤numV l/\numV l<10 ^ l.length:=by
 have:=zkI l 0 (by decide) h
 rw[Int.zero_add,Int.one_mul]at this
 exact this
theorem bsz(s:ByteArray):s.data.toList.length=s.size:=by cases s;rfl
theorem pw5{n:Nat}(h:n≤5):(10:Int) ^ n≤100000:=by
 rcases(show n=0\/n=1\/n=2\/n=3\/n=4\/n=5 by omega)with rfl|rfl|rfl|rfl|rfl|rfl <;> decide
set_option maxRecDepth 1000000 in
theorem ziL (s:ByteArray) (hd:∀c∈s.data.toList,48≤c.toNat/\c.toNat≤57) (hs:s.size≤5) (w:World):
  Calls Tryz.prog 104 #[.string s] w fun e w'=>e= .returned (.int .i64 (numV s.data.toList))/\∃pos,w'=w.iter s pos:=by
 go_enter Tryz.func104,Tryz.ntmps104
 go_wp2
 go_loopw [3] (fun n w'=>∃(pos:Nat),w'=w.iter s pos/\n= .int .i64 (numV (s.data.toList.take pos))/\pos≤s.size) (fun _ w'=>s.size-w'.iterPos w.heap.size)
 case atStart=>exact⟨0,rfl,rfl,qaV _⟩
 case round=>
  obtain⟨pos,rfl,rfl,hb⟩:=hrel
  by_cases hp:pos<s.size
  ·have hnx:∀ty,(Instr.next (.pointer (some ⟨w.heap.size,0,none⟩)) true ty).run Tryz.prog (w.iter s pos)=_:=fun ty=>run_next_any w s pos ty hp
   go_wp2
   have hl:=bsz s
   have hlt:pos<s.data.toList.length:=by omega
   have hc:=hd _ (qaz hlt)
   have he:s[pos]'hp=s.data.toList[pos]:=by rw[Array.getElem_toList];rfl
   have hsn:numV (s.data.toList.take (pos+1))=10*numV (s.data.toList.take pos)+((s.data.toList[pos].toNat:Int)-48):=by rw[qaJ hlt,zm1]
   have ha:=zhd (l:=s.data.toList.take pos) fun x hx=>hd x (List.mem_of_mem_take hx)
   have hpw:(10:Int) ^ (s.data.toList.take pos).length≤100000:=pw5 (by rw[qa5];omega)
   rw[decode_ascii s pos hp (by rw[he];omega),he]
   refine⟨⟨pos+1,rfl,?_,by omega⟩,by simp;omega⟩
   rw[hsn]
   congr 1
   generalize s.data.toList[pos]=c at*
   generalize numV (s.data.toList.take pos)=a at*
   have hw:∀x:Int,-9223372036854775808≤x->x≤9223372036854775807->RowKit.wrap64 x=x:=fun x h1 h2=>by simp only[RowKit.wrap64];omega
   have hw2:∀x:Int,-2147483648≤x->x≤2147483647->RowKit.wrap32 x=x:=fun x h1 h2=>by simp only[RowKit.wrap32];omega
   simp only
   rw[hw2 _ (by omega) (by omega),hw ((c.toNat:Int)-48) (by omega) (by omega),hw (10*a) (by omega) (by omega),hw _ (by omega) (by omega)]
  ·have hnx:∀ty,(Instr.next (.pointer (some ⟨w.heap.size,0,none⟩)) true ty).run Tryz.prog (w.iter s pos)=_:=fun ty=>run_next_end w s pos ty hp
   go_wp2
   go_ret
   rw[qaH (by rw[bsz];omega)]
   exact⟨rfl,_,rfl⟩
theorem zeI(s:Str)(hd:∀c∈s,48≤c.toNat/\c.toNat≤57)(hs:s.length≤5):Pure Tryz.prog 104 [.s s] (.i (numV s)):=by
 unfold Go.TL.Pure Go.TL.Sound
 refine⟨⟨_,Tryz.func104,by kernel_rfl,rfl⟩,fun m vs h1 h2 h3=>?_⟩
 obtain⟨g1,g2⟩:=h3
 match vs,g1,g2 with
 | ⟨[x]⟩,_,g2=>
   have hx:=(g2 0 _ x rfl rfl).v_eq
   subst hx
   refine Calls.mono (ziL ⟨s.toArray⟩ (by simpa using hd) (by simpa [ByteArray.size]using hs) m.w) ?_
   rintro e w' ⟨rfl,pos,rfl⟩
   obtain⟨st,hm⟩:=zcN h2 (w':=m.w.iter ⟨s.toArray⟩ pos) ⟨rfl,rfl,rfl,by show m.w.heap.size≤(m.w.heap.push _).size;rw[Array.size_push];omega,fun b hb=>by show(m.w.heap.push _)[b]?=m.w.heap[b]?;rw[Array.getElem?_push,if_neg (by omega)]⟩
   exact⟨_,.ret (.i (numV s)),rfl,st,hm,.t _ _ (.v _),rfl,h1⟩
end Go.Proofs.YtpfnfpaahefdaaaGreat
namespace Go.TL
open Go
section rules
variable {P:Program}{all:Array Oper}
def zpE(g:Prop):List Oper->Prop
 | []=>g
 | _::_=>True
def zk5(P:Program)(n:Nat)(K:TK)(g:Prop)(all:Array Oper)(full:Env)(H0:Heap):List Oper->List (SV×Bool)->Prop
 | [],[]=>True
 | o::l,(v,_)::t=>(∀env,TO false P n all [o] (zaS full (slotsOf all o)++env) H0 (NKP K (zpE g l) (putE o.dst v (zaS full (slotsOf all o)++env)) H0))/\zk5 P n K g all full H0 l t
 | _,_=>False
theorem zk5.get{n:Nat}{K:TK}{g:Prop}{full:Env}{H0:Heap}:∀ {l:List Oper} {t:List (SV×Bool)},zk5 P n K g all full H0 l t->l.length=t.length/\∀(i:Nat) o v b,l[i]?=some o->t[i]?=some (v,b)->
  ∀env,TO false P n all [o] (zaS full (slotsOf all o)++env) H0 (NKP K (zpE g (l.drop (i+1))) (putE o.dst v (zaS full (slotsOf all o)++env)) H0)
 | [],[],_=>⟨rfl,fun i o v b h=>by simp at h⟩
 | [],_::_,h=>h.elim
 | _::_,[],h=>h.elim
 | o::l,(v,b)::t,h=>by
   obtain⟨h1,h2⟩:=h
   obtain⟨g1,g2⟩:=zk5.get h2
   refine⟨by simp[g1],fun i o' v' b' ho hv=>?_⟩
   cases i with
   | zero=>simp at ho hv;obtain⟨rfl,rfl⟩:=hv;subst ho;exact h1
   | succ i=>exact g2 i o' v' b' (by simpa using ho) (by simpa using hv)
theorem TR.zpU{g:Prop}{n:Nat}{env0 envF:Env}{H0:Heap}{K:TK}{id':Nat}{l:List Oper}(t:List (SV×Bool))(hm:P.follows .mixedOrders=true)(hB:mixB l.toArray (t.map (·.2))=true)
  (hp:zk5 P n K g l.toArray (zbc l.toArray (t.map (·.1)) env0) H0 l t)(hE:zbF (zbc l.toArray (t.map (·.1)) env0)=some envF)(hne:0<l.length)(hK:g->K .normal envF H0):
  TR P n (.region id' l.toArray true) env0 H0 K:=by
 obtain⟨g1,g2⟩:=hp.get
 intro φ m a h1 h2 h3 h4
 let hs:=List.replicate (((t.map (·.2)).filter id).length+1) H0
 have hsg:∀(c:Nat) H,hs[c]?=some H->H=H0:=by
  intro c H h
  rw[qb9]at h
  split at h
  ·cases h;rfl
  ·cases h
 have hsi:∀c:Nat,c≤((t.map (·.2)).filter id).length->hs[c]?=some H0:=by
  intro c hc
  rw[qb9,if_pos (by omega)]
 have s0:Step m ⟨m.A,m.β,m.H,{ m.w with drawn:=m.w.drawn+1 }⟩/\HRel ⟨m.A,m.β,m.H,{ m.w with drawn:=m.w.drawn+1 }⟩:=zcN h2 ⟨rfl,rfl,rfl,qae _,fun _ _=>rfl⟩
 refine zbz (wpIn_region_any hm ?_)
 refine zhy [] (G:=fun i=>zpE g (l.drop (i+1))) (vs:=t.map (·.1)) (fl:=t.map (·.2)) (hs:=hs) (HF:=H0) (m0:=m) (fun t ht=>by simp at ht) hB (by simp[g1]) (by simp[g1]) ?_ ?_ (hsi _ (qae _)) (fun hg=>by rw[zbf hE]at hK;exact hK (by have:=hg (l.length-1) (by simp;omega);rw[qaZ (by omega)]at this;exact this)) l.toArray.size (Array.replicate l.toArray.size false)
  ⟨m.A,m.β,m.H,{ m.w with drawn:=m.w.drawn+1 }⟩ a (by simp) ?_ ?_ ?_ s0.1 s0.2 ?_ (h4.step h2 s0.1)
 ·intro i o v ho hv hb c H hc _ env
  obtain⟨⟨v',b⟩,hx,rfl⟩:∃x,t[i]?=some x/\x.1=v:=by simpa using hv
  rw[hsg c H hc]
  exact g2 i o v' b (by simpa using ho) hx env
 ·intro i o v ho hv hb
  obtain⟨⟨v',b⟩,hx,rfl⟩:∃x,t[i]?=some x/\x.1=v:=by simpa using hv
  have hlt:(((t.map (·.2)).take i).filter id).length<((t.map (·.2)).filter id).length:=by
   have hm:∀(fl':List Bool) (x:Nat),fl'.getD x false=true->((fl'.take x).filter id).length<(fl'.filter id).length:=by
    exact zwbf
   exact hm _ i hb
  exact⟨H0,H0,hsi _ (by omega),hsi _ (by omega),fun env=>g2 i o v' b (by simpa using ho) hx env⟩
 ·exact zwfh
 ·exact zwcm
 ·refine⟨0,fun i hi=>⟨fun h=>by omega,fun h=>?_⟩,qaV _,by rw[hsi 0 (qaV _)];simp[h1],fun j h=>?_⟩
  all_goals
   rw[qaP]at h
   split at h <;> cases h
 ·exact zwg
end rules
end Go.TL
namespace Go.Proofs.YtpfnfpaahefdaaaGreat
open Go Go.TL
attribute [local irreducible] TR TO Then zab RetK Sound zac Kf GG za2
theorem rgS{n:Nat}{env0 envF:Env}{H0:Heap}{K:TK}{id':Nat}{l:List Oper}(t:List SV)
  (hp:zk5 Tryz.prog n K True l.toArray (zbc l.toArray t env0) H0 l (t.map fun v=>(v,false)))(hK:K .normal envF H0)
  (hB:mixB l.toArray (t.map fun _=>false)=true:=by dsimp only[List.map];decide +kernel)(hne:0<l.length:=by decide)(hE:zbF (zbc l.toArray t env0)=some envF:=by exact rfl):
  TR Tryz.prog n (.region id' l.toArray true) env0 H0 K:=by
 have e1:(t.map fun v=>(v,false)).map (·.1)=t:=by rw[qbQ];exact List.map_id t
 have e2:(t.map fun v=>(v,false)).map (·.2)=t.map fun _=>false:=by rw[qbQ];rfl
 exact TR.zpU (t.map fun v=>(v,false)) hmix (by rw[e2];exact hB) (by rw[e1];exact hp) (by rw[e1];exact hE) hne fun _=>hK
set_option maxHeartbeats 4000000 in
theorem zbJ (l:List Tok) (n:Int) (es:List En) (i:Nat) (hl:l.length≤1000000) (hi:i≤l.length):Sound Tryz.prog 93 [.ref 0 0] [rdB l n es i] (fun r H'=>r= .ret (.b ((rdr l es).neg i))/\H'=[rdB l n es i]):=by
 have hml:(l.map tokT).length=l.length:=qad _
 have h1:=zaO l n es i [45] hl
 have hr:(rdr l es).neg i=((rdr l es).isAt i [45] && (rdr l es).kind (i+1) 2):=rfl
 have hk:(rdr l es).kind (i+1) 2=match l[i+1]? with|some t=>decide (t.1=2)|none=>false:=by
  unfold Rd.kind
  simp only[qar]
  cases l[i+1]? <;> rfl
 generalize (rdr l es).neg i=b at*
 generalize (rdr l es).kind (i+1) 2=bk at*
 generalize (rdr l es).isAt i [45]=b1 at*
 subst hr
 cases b1 with
 | false=>
   refine so Tryz.func93 ?_
   refine wkt ?_
   refine rgS [.ref 0 0,.b false,.b false,.t (.v undef),.t (.v undef),.t (.v undef),.t (.v undef),.t (.v undef),.t (.v undef),.t (.v undef),.t (.v undef),.t (.v undef),.t (.v undef),.t (.v undef),.b false,.b false,.t (.v undef),.t (.v undef),.t (.v undef),.t (.v undef),.t (.v undef),.t (.v undef),.t (.v undef),.t (.v undef),.t (.v undef),.t (.v undef),.t (.v undef),.t (.v undef),.t (.v undef),.b false,.b false] ?_ ?_
   ·repeat' (first|refine wkt ?_|refine wd h1 ?_|exact trivial|exact⟨⟨rfl,rfl⟩,trivial⟩|refine qai (fun env=>?_) ?_|refine wk ?_|exact wkc|intro hc|refine wk2 ?_ ?_|fail)
    done
   ·repeat' (first|refine wu ?_|exact wkc|intro hc|refine wk2 ?_ ?_|fail)
    exact zwfs
 | true=>
   by_cases hlt:i+1<l.length
   ·have hx:=zcK hlt
    have hx':(l.map tokT)[((i:Int)+1).toNat]?=some (.ag [T.i l[i+1].1,.s l[i+1].2.1,T.i l[i+1].2.2]):=by rw[show((i:Int)+1).toNat=i+1 by omega];exact hx
    rw[qab hlt]at hk
    simp only at hk
    generalize l[i+1]=t at*
    by_cases h2:t.1=2
    ·rw[decide_eq_true h2]at hk
     subst hk
     refine so Tryz.func93 ?_
     refine wkt ?_
     refine rgS [.ref 0 0,.b true,.b true,.ref 0 0,.ref 0 0,.ref 0 2,.i i,.i ((i:Int)+1),.ref 0 0,.ref 0 0,.ref 0 0,.t (.sl 3 (l.map tokT)),.i (l.map tokT).length,.b true,.b true,.b true,.ref 0 0,.ref 0 0,.ref 0 0,.t (.sl 3 (l.map tokT)),.ref 0 0,.ref 0 0,.ref 0 2,.i i,.i ((i:Int)+1),.cp [T.i t.1,.s t.2.1,T.i t.2.2] 0,.cp [T.i t.1,.s t.2.1,T.i t.2.2] 0,.i t.1,.b true,.b true,.b true] ?_ ?_
     ·repeat' (first|refine wkt ?_|refine wd h1 ?_|exact trivial|exact⟨⟨rfl,rfl⟩,trivial⟩|refine qai (fun env=>?_) ?_|refine wk ?_|exact wkc|intro hc|refine wk2 ?_ ?_|fail)
      done
     ·repeat' (first|refine wu ?_|exact wkc|intro hc|refine wk2 ?_ ?_|fail)
      exact zwfs
    ·rw[decide_eq_false h2]at hk
     subst hk
     refine so Tryz.func93 ?_
     refine wkt ?_
     refine rgS [.ref 0 0,.b true,.b true,.ref 0 0,.ref 0 0,.ref 0 2,.i i,.i ((i:Int)+1),.ref 0 0,.ref 0 0,.ref 0 0,.t (.sl 3 (l.map tokT)),.i (l.map tokT).length,.b true,.b true,.b true,.ref 0 0,.ref 0 0,.ref 0 0,.t (.sl 3 (l.map tokT)),.ref 0 0,.ref 0 0,.ref 0 2,.i i,.i ((i:Int)+1),.cp [T.i t.1,.s t.2.1,T.i t.2.2] 0,.cp [T.i t.1,.s t.2.1,T.i t.2.2] 0,.i t.1,.b false,.b false,.b false] ?_ ?_
     ·repeat' (first|refine wkt ?_|refine wd h1 ?_|exact trivial|exact⟨⟨rfl,rfl⟩,trivial⟩|refine qai (fun env=>?_) ?_|refine wk ?_|exact wkc|intro hc|refine wk2 ?_ ?_|fail)
      done
     ·repeat' (first|refine wu ?_|exact wkc|intro hc|refine wk2 ?_ ?_|fail)
      exact zwfs
   ·rw[qaG (by omega)]at hk
    simp only at hk
    subst hk
    refine so Tryz.func93 ?_
    refine wkt ?_
    refine rgS [.ref 0 0,.b true,.b true,.ref 0 0,.ref 0 0,.ref 0 2,.i i,.i ((i:Int)+1),.ref 0 0,.ref 0 0,.ref 0 0,.t (.sl 3 (l.map tokT)),.i (l.map tokT).length,.b false,.b false,.b false,.t (.v undef),.t (.v undef),.t (.v undef),.t (.v undef),.t (.v undef),.t (.v undef),.t (.v undef),.t (.v undef),.t (.v undef),.t (.v undef),.t (.v undef),.t (.v undef),.t (.v undef),.b false,.b false] ?_ ?_
    ·repeat' (first|refine wkt ?_|refine wd h1 ?_|exact trivial|exact⟨⟨rfl,rfl⟩,trivial⟩|refine qai (fun env=>?_) ?_|refine wk ?_|exact wkc|intro hc|refine wk2 ?_ ?_|fail)
     done
    ·repeat' (first|refine wu ?_|exact wkc|intro hc|refine wk2 ?_ ?_|fail)
     exact zwfs
end Go.Proofs.YtpfnfpaahefdaaaGreat
