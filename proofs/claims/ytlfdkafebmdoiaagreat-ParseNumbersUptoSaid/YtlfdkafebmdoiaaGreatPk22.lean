import Derived.Test.YtlfdkafebmdoiaaGreatPk15
import Derived.Test.YtlfdkafebmdoiaaGreatPk16
import Derived.Test.YtlfdkafebmdoiaaGreatPk17
import Derived.Test.YtlfdkafebmdoiaaGreatPk18
import Derived.Test.YtlfdkafebmdoiaaGreatPk21
set_option linter.unusedSimpArgs false
set_option linter.unusedVariables false
namespace Go.Proofs.YtlfdkafebmdoiaaGreat
open Go Go.TL
attribute [local irreducible] TR TO Then InBlock RetK Sound LoopK Kf GG ThenL
abbrev rdr (l:List Tok)(es:List En):Rd:=⟨l.map fun t=>(t.1,t.2.1),es⟩
abbrev rdB (l:List Tok)(n:Int)(es:List En)(i:Nat):Blk:=.cells [.t (.sl 3 (l.map tokT)),.i n,.i i,.t (.sl 2 (es.map enT))]
def placeOf(l:List Tok)(n:Int)(k:Nat):Int:=match l[k]? with
 | some t=>t.2.2
 | none=>n
abbrev faultS (l:List Tok)(n:Int)(k:Nat)(c:Int):SV:=.ifc 102 (.t (.ag [T.i (placeOf l n k),T.i c]))
def PR.code{α:Type}:PR α->Int
 | .ok _ _=>0
 | .er _ c=>c
def PR.at{α:Type}:PR α->Nat
 | .ok _ i=>i
 | .er k _=>k
def PR.vl{α:Type}(d:α):PR α->α
 | .ok v _=>v
 | .er _ _=>d
abbrev RdS {α:Type}(l:List Tok)(n:Int)(es:List En)(f:FuncId)(args:List SV)(i:Nat)(r:PR α)(v:SV):Prop:=
 Sound Tryz.prog f (.ref 0 0::args) [rdB l n es i] (Err r.code v (faultS l n r.at r.code) [rdB l n es r.at])
theorem rdr_len(l:List Tok)(es:List En):(rdr l es).K.length=l.length:=List.length_map _
theorem at_tok{l:List Tok}{k:Nat}(h:k<l.length):(l.map tokT)[k]?=some (.ag [T.i l[k].1,.s l[k].2.1,T.i l[k].2.2]):=at_map tokT h
theorem at_sound(l:List Tok)(n:Int)(es:List En)(i k:Nat)(hl:l.length≤1000000):Sound Tryz.prog 73 [.ref 0 0,.i k] [rdB l n es i] (fun r H'=>r= .ret (.i (placeOf l n k))/\H'=[rdB l n es i]):=by
 have hml:(l.map tokT).length=l.length:=List.length_map _
 unfold placeOf
 by_cases hk:k<l.length
 ·have hx:=at_tok hk
  rw[List.getElem?_eq_getElem hk]
  generalize l[k]=t at*
  refine so Tryz.func73 ?_
  repeat' (first|refine wu ?_|exact wkc|intro hc|refine wk2 ?_ ?_|fail)
  exact RetK.keep 1 rfl (Le.refl _) rfl rfl rfl rfl rfl ⟨rfl,rfl⟩
 ·rw[List.getElem?_eq_none (by omega)]
  refine so Tryz.func73 ?_
  repeat' (first|refine wu ?_|exact wkc|intro hc|refine wk2 ?_ ?_|fail)
  exact RetK.keep 1 rfl (Le.refl _) rfl rfl rfl rfl rfl ⟨rfl,rfl⟩
theorem fail_sound(l:List Tok)(n:Int)(es:List En)(i k:Nat)(c:Int)(hc0:c≠0)(hl:l.length≤1000000):Sound Tryz.prog 46 [.ref 0 0,.i k,.i c] [rdB l n es i] (Err c (.tup []) (faultS l n k c) [rdB l n es k]):=by
 have ha:=at_sound l n es i k hl
 refine Sound.err rfl (fun _=>rfl) ?_
 refine so Tryz.func46 ?_
 repeat' (first|refine wu ?_|exact wkc|intro hc|refine wk2 ?_ ?_|(apply TO.makeInterface;exact rfl;kernel_rfl;exact rfl)|(apply TO.panic;exact rfl)|refine wd ha ?_|fail)
 exact RetK.errP hc0 rfl rfl rfl
theorem isAt_sound(l:List Tok)(n:Int)(es:List En)(i k:Nat)(s:Str)(hl:l.length≤1000000):Sound Tryz.prog 69 [.ref 0 0,.i k,.s s] [rdB l n es i] (fun r H'=>r= .ret (.b ((rdr l es).isAt k s))/\H'=[rdB l n es i]):=by
 have hml:(l.map tokT).length=l.length:=List.length_map _
 unfold Rd.isAt
 simp only[List.getElem?_map]
 by_cases hk:k<l.length
 ·have hx:=at_tok hk
  rw[List.getElem?_eq_getElem hk]
  generalize l[k]=t at*
  simp only[Option.map_some]
  refine so Tryz.func69 ?_
  repeat' (first|refine wu ?_|exact wkc|intro hc|refine wk2 ?_ ?_|fail)
  all_goals
   refine RetK.keep 1 rfl (Le.of_eq (congrArg (fun z=>SV.t (T.v (Value.bool z))) ?_)) rfl rfl rfl rfl rfl ⟨rfl,rfl⟩
   clear hx
   grind
 ·rw[List.getElem?_eq_none (by omega)]
  refine so Tryz.func69 ?_
  repeat' (first|refine wu ?_|exact wkc|intro hc|refine wk2 ?_ ?_|fail)
  exact RetK.keep 1 rfl (Le.refl _) rfl rfl rfl rfl rfl ⟨rfl,rfl⟩
theorem is_sound(l:List Tok)(n:Int)(es:List En)(i:Nat)(s:Str)(hl:l.length≤1000000):Sound Tryz.prog 39 [.ref 0 0,.s s] [rdB l n es i] (fun r H'=>r= .ret (.b ((rdr l es).isAt i s))/\H'=[rdB l n es i]):=by
 have h:=isAt_sound l n es i i s hl
 refine so Tryz.func39 ?_
 repeat' (first|refine wu ?_|exact wkc|intro hc|refine wk2 ?_ ?_|refine wd h ?_|fail)
 exact RetK.keep 1 rfl (Le.refl _) rfl rfl rfl rfl rfl ⟨rfl,rfl⟩
theorem kind_sound(l:List Tok)(n:Int)(es:List En)(i:Nat)(k:Int)(hl:l.length≤1000000):Sound Tryz.prog 43 [.ref 0 0,.i k] [rdB l n es i] (fun r H'=>r= .ret (.b ((rdr l es).kind i k))/\H'=[rdB l n es i]):=by
 have hml:(l.map tokT).length=l.length:=List.length_map _
 unfold Rd.kind
 simp only[List.getElem?_map]
 by_cases hk:i<l.length
 ·have hx:=at_tok hk
  rw[List.getElem?_eq_getElem hk]
  generalize l[i]=t at*
  simp only[Option.map_some]
  refine so Tryz.func43 ?_
  repeat' (first|refine wu ?_|exact wkc|intro hc|refine wk2 ?_ ?_|fail)
  all_goals
   refine RetK.keep 1 rfl (Le.of_eq (congrArg (fun z=>SV.t (T.v (Value.bool z))) ?_)) rfl rfl rfl rfl rfl ⟨rfl,rfl⟩
   clear hx
   grind
 ·rw[List.getElem?_eq_none (by omega)]
  refine so Tryz.func43 ?_
  repeat' (first|refine wu ?_|exact wkc|intro hc|refine wk2 ?_ ?_|fail)
  exact RetK.keep 1 rfl (Le.refl _) rfl rfl rfl rfl rfl ⟨rfl,rfl⟩
theorem take_sound(l:List Tok)(n:Int)(es:List En)(i:Nat)(s:Str)(hl:l.length≤1000000)(hi:i≤l.length):Sound Tryz.prog 44 [.ref 0 0,.s s] [rdB l n es i] (fun r H'=>r= .ret (.b ((rdr l es).isAt i s))/\H'=[rdB l n es (if(rdr l es).isAt i s=true then i+1 else i)]):=by
 have h:=is_sound l n es i s hl
 generalize (rdr l es).isAt i s=b at*
 cases b
 all_goals
  refine so Tryz.func44 ?_
  repeat' (first|refine wu ?_|exact wkc|intro hc|refine wk2 ?_ ?_|refine wd h ?_|fail)
  exact RetK.keep 1 rfl (Le.refl _) rfl rfl rfl rfl rfl ⟨rfl,rfl⟩
section
variable {l:List Tok}{n:Int}{es:List En}{α:Type}{r:PR α}{rs:List ResultVar}{env:Env}{H:Heap}{v:SV}{j k:Nat}{c:Int}
theorem rdP(h:r= .er k c)(hc:c≠0)(hN:Nat.ble 1 H.length=true:=by exact rfl)(hb:blksUnder H.length H=true:=by exact rfl):RetK tab rs 1 (Err0 r.code v (faultS l n r.at r.code) [rdB l n es r.at] 1) (.panic (faultS l n k c)) env H:=by
 subst h;exact RetK.errP hc hN rfl hb
theorem rdV{x:α}{vs:List SV}(h:r= .ok x j)(hr:resAll tab env H rs=some vs)(hl:Le (pack vs) v)(hu:v.under 1=true)(hk:Nat.ble 1 H.length=true)(ht:H.take 1=[rdB l n es j]):RetK tab rs 1 (Err0 r.code v (faultS l n r.at r.code) [rdB l n es r.at] 1) .ret env H:=by
 subst h;exact RetK.errV rfl hr hl rfl hk hu ht rfl
theorem rdN{x:α}{vs:List SV}(h:r= .ok x j)(hr:resAll tab env H rs=some vs)(hl:Le (pack vs) v)(hu:v.under 1=true)(hk:Nat.ble 1 H.length=true)(ht:H.take 1=[rdB l n es j]):RetK tab rs 1 (Err0 r.code v (faultS l n r.at r.code) [rdB l n es r.at] 1) .normal env H:=by
 subst h;exact RetK.errN rfl hr hl rfl hk hu ht rfl
end
theorem at_strsP{l:List Str}{k:Nat}(h:k<l.length):(l.map T.s)[k]?=some (T.s l[k]):=by simp[h]
set_option maxHeartbeats 1000000 in
theorem mustP_sound (l:List Tok) (n:Int) (es:List En) (i:Nat) (ss:List Str) (hl:l.length≤1000000) (hi:i≤l.length) (hs:ss.length≤1000):RdS l n es 42 [.t (.sl 1 (ss.map T.s))] i ((rdr l es).must ss i) (.tup []):=by
 have hml:(ss.map T.s).length=ss.length:=List.length_map _
 have h0:(rdr l es).must ss i=(rdr l es).must (ss.drop 0) (i+0):=rfl
 generalize (rdr l es).must ss i=r at*
 refine Sound.err rfl (fun _=>rfl) ?_
 refine so Tryz.func42 ?_
 repeat' (first|refine wu ?_|exact wkc|intro hc|refine wk2 ?_ ?_|fail)
 refine TR.loopN ss.length (fun k=>r=(rdr l es).must (ss.drop k) (i+k)/\i+k≤l.length) (fun k=>[(0,.ref 0 0),(6,.t (.sl 1 (ss.map T.s))),(7,.i (ss.map T.s).length),(8,.i k)]) (fun k=>[rdB l n es (i+k:Nat)]) ⟨h0,hi⟩ (fun k hlt ha=>?_) (fun ha=>?_)
 ·obtain⟨ha,hk⟩:=ha
  have hx:=at_strsP hlt
  rw[List.drop_eq_getElem_cons hlt,Rd.must]at ha
  have ht:=take_sound l n es (i+k) ss[k] hl hk
  have hf:=fail_sound l n es (i+k) (i+k) 5 (by decide) hl
  have hlt2:=@isAt_lt (rdr l es) (i+k) ss[k]
  rw[rdr_len]at hlt2
  generalize ss[k]=s at*
  generalize (rdr l es).isAt (i+k) s=b at*
  cases b with
  | true=>
    rw[if_pos rfl]at ha ht
    repeat' (first|refine wu ?_|exact wkc|intro hc|refine wk2 ?_ ?_|refine wd ht ?_|fail)
    exact LoopK.nextN hlt ⟨ha,by have:=hlt2 rfl;omega⟩
  | false=>
    rw[if_neg (by decide)]at ha ht
    repeat' (first|refine wu ?_|exact wkc|intro hc|refine wk2 ?_ ?_|refine wd ht ?_|refine we hf ?_ ?_|fail)
    repeat' (first|refine LoopK.panic ?_|refine wk ?_|fail)
    exact rdP ha (by decide)
 ·obtain⟨ha,hk⟩:=ha
  rw[List.drop_of_length_le (Nat.le_refl _)]at ha
  repeat' (first|refine wu ?_|exact wkc|intro hc|refine wk2 ?_ ?_|fail)
  exact rdN (vs:=[]) ha rfl (Le.refl _) rfl rfl rfl
theorem idP_sound(l:List Tok)(n:Int)(es:List En)(i:Nat)(hl:l.length≤1000000)(hi:i≤l.length):RdS l n es 41 [] i ((rdr l es).id i) (.s (((rdr l es).id i).vl [])):=by
 have hml:(l.map tokT).length=l.length:=List.length_map _
 have hk:=kind_sound l n es i 1 hl
 have hf:=fail_sound l n es i i 5 (by decide) hl
 have hlt:=@kind_lt (rdr l es) i 1
 rw[rdr_len]at hlt
 have hr:(rdr l es).id i=if(rdr l es).kind i 1=true then .ok ((rdr l es).txt i) (i+1) else .er i 5:=rfl
 have htx:∀h:i<l.length,(rdr l es).txt i=l[i].2.1:=fun h=>by
  unfold Rd.txt
  simp only[List.getElem?_map,List.getElem?_eq_getElem h,Option.map_some]
 generalize (rdr l es).id i=r at*
 generalize (rdr l es).kind i 1=b at*
 refine Sound.err rfl (fun _=>rfl) ?_
 cases b with
 | true=>
   have hx:=at_tok (hlt rfl)
   rw[if_pos rfl,htx (hlt rfl)]at hr
   have hlt:=hlt rfl
   have hx':(l.map tokT)[((i:Int)+1-1).toNat]?=some (.ag [T.i l[i].1,.s l[i].2.1,T.i l[i].2.2]):=by rw[show((i:Int)+1-1).toNat=i by omega];exact hx
   clear htx
   generalize l[i]=t at*
   refine so Tryz.func41 ?_
   repeat' (first|refine wu ?_|exact wkc|intro hc|refine wk2 ?_ ?_|refine wd hk ?_|fail)
   apply rdV hr
   ·exact rfl
   ·rw[hr];exact Le.refl _
   all_goals exact rfl
 | false=>
   rw[if_neg (by decide)]at hr
   refine so Tryz.func41 ?_
   repeat' (first|refine wu ?_|exact wkc|intro hc|refine wk2 ?_ ?_|refine wd hk ?_|refine we hf ?_ ?_|fail)
   exact rdP hr (by decide)
theorem limitP_sound(l:List Tok)(n:Int)(es:List En)(i:Nat)(a most:Nat)(hl:l.length≤1000000):RdS l n es 40 [.i a,.i most] i (limR a most i) (.tup []):=by
 have hf:=fail_sound l n es i i 3 (by decide) hl
 unfold limR
 by_cases h:most≤a
 ·rw[if_pos h]
  refine Sound.err rfl (fun _=>rfl) ?_
  refine so Tryz.func40 ?_
  repeat' (first|refine wu ?_|exact wkc|intro hc|refine wk2 ?_ ?_|refine we hf ?_ ?_|fail)
  exact rdP rfl (by decide)
 ·rw[if_neg h]
  refine Sound.err rfl (fun _=>rfl) ?_
  refine so Tryz.func40 ?_
  repeat' (first|refine wu ?_|exact wkc|intro hc|refine wk2 ?_ ?_|refine we hf ?_ ?_|fail)
  exact rdN (vs:=[]) rfl rfl (Le.refl _) rfl rfl rfl
def idxS(s:Str)(l:List Str):Int:=match idxOf s 0 l with
 | some k=>(k:Int)
 | none=>-1
theorem idxOf_step{s:Str}{l:List Str}{k:Nat}(h:k<l.length):idxOf s k (l.drop k)=if l[k]=s then some k else idxOf s (k+1) (l.drop (k+1)):=by
 rw[List.drop_eq_getElem_cons h,idxOf]
theorem indexS_sound(l:List Str)(s:Str)(hl:l.length≤1000000000):Pure Tryz.prog 120 [.t (.sl 1 (l.map T.s)),.s s] (.i (idxS s l)):=by
 have hml:(l.map T.s).length=l.length:=List.length_map _
 have h0:idxS s l=match idxOf s 0 (l.drop 0)with|some k=>(k:Int)|none=>-1:=rfl
 generalize idxS s l=z at*
 refine so Tryz.func120 ?_
 repeat' (first|refine wu ?_|exact wkc|intro hc|refine wk2 ?_ ?_|fail)
 refine TR.loopN l.length (fun k=>z=match idxOf s k (l.drop k)with|some k=>(k:Int)|none=>-1) (fun k=>[(0,.t (.sl 1 (l.map T.s))),(1,.s s),(7,.i (l.map T.s).length),(8,.i k)]) (fun _=>[]) h0 (fun k hlt ha=>?_) (fun ha=>?_)
 ·have hx:=at_strsP hlt
  rw[idxOf_step hlt]at ha
  generalize l[k]=t at*
  repeat' (first|refine wu ?_|exact wkc|intro hc|refine wk2 ?_ ?_|fail)
  ·rw[if_pos (Eq.symm (by assumption))]at ha
   subst ha
   exact wkr
  ·rw[if_neg (fun h=>by first|exact absurd h.symm (by assumption)|exact absurd h (by assumption))]at ha
   exact LoopK.nextN hlt ha
 ·rw[List.drop_of_length_le (Nat.le_refl _)]at ha
  repeat' (first|refine wu ?_|exact wkc|intro hc|refine wk2 ?_ ?_|fail)
  subst ha
  exact wkr
theorem RdS.ok{α:Type}{l:List Tok}{n:Int}{es:List En}{f:FuncId}{args:List SV}{i:Nat}{x:α}{j:Nat}{v:SV}(h:RdS l n es f args i (.ok x j) v):Sound Tryz.prog f (.ref 0 0::args) [rdB l n es i] (Err 0 v (faultS l n j 0) [rdB l n es j]):=h
theorem RdS.er{α:Type}{l:List Tok}{n:Int}{es:List En}{f:FuncId}{args:List SV}{i:Nat}{k:Nat}{c:Int}{v:SV}(h:RdS (α:=α) l n es f args i (.er k c) v):Sound Tryz.prog f (.ref 0 0::args) [rdB l n es i] (Err c v (faultS l n k c) [rdB l n es k]):=h
structure EsOk (es:List En):Prop where
 len:es.length≤3000000
 tags:∀u∈es,u.tags.length≤3000000
def tagR:Option (Nat×Nat)->SV
 | some tv=>.tup [.i (tv.1:Nat),.i (tv.2:Nat),.b true]
 | none=>.tup [.i 0,.i 0,.b false]
theorem idxOf_lt{s:Str}:∀ {l:List Str} {k j:Nat},idxOf s k l=some j->k≤j/\j<k+l.length
 | [],_,_,h=>by cases h
 | t::l,k,j,h=>by
   rw[idxOf]at h
   split at h
   ·cases h;simp
   ·have:=idxOf_lt h
    simp only[List.length_cons];omega
theorem tagFrom_step{s:Str}{es:List En}{k:Nat}(h:k<es.length):tagFrom s k (es.drop k)=match idxOf s 0 es[k].tags with|some j=>some (3+k,j)|none=>tagFrom s (k+1) (es.drop (k+1)):=by
 rw[List.drop_eq_getElem_cons h,tagFrom]
 cases idxOf s 0 es[k].tags <;> rfl
theorem tagFrom_lt{s:Str}:∀ {es:List En} {k:Nat} {tv:Nat×Nat},tagFrom s k es=some tv->3+k≤tv.1/\tv.1<3+k+es.length/\∃u,es[tv.1-3-k]?=some u/\tv.2<u.tags.length
 | [],_,_,h=>by cases h
 | u::es,k,tv,h=>by
   rw[tagFrom]at h
   cases hq:idxOf s 0 u.tags with
   | some j=>
     rw[hq]at h;cases h
     have:=idxOf_lt hq
     exact⟨Nat.le_refl _,by simp,u,by simp,by simpa using this.2⟩
   | none=>
     rw[hq]at h
     obtain⟨h1,h2,w,h3,h4⟩:=tagFrom_lt h
     refine⟨by omega,by simp only[List.length_cons];omega,w,?_,h4⟩
     rw[show tv.1-3-k=(tv.1-3-(k+1))+1 by omega]
     simpa using h3
set_option maxHeartbeats 1000000 in
theorem tagP_sound (l:List Tok) (n:Int) (es:List En) (i:Nat) (s:Str) (he:EsOk es):Sound Tryz.prog 110 [.ref 0 0,.s s] [rdB l n es i] (fun r H'=>r= .ret (tagR ((rdr l es).tag s))/\H'=[rdB l n es i]):=by
 have hml:(es.map enT).length=es.length:=List.length_map _
 have hle:=he.len
 have h0:(rdr l es).tag s=tagFrom s 0 (es.drop 0):=rfl
 generalize (rdr l es).tag s=z at*
 refine so Tryz.func110 ?_
 repeat' (first|refine wu ?_|exact wkc|intro hc|refine wk2 ?_ ?_|fail)
 refine TR.loopN es.length (fun k=>z=tagFrom s k (es.drop k)) (fun k=>[(0,.ref 0 0),(1,.s s),(13,.t (.sl 2 (es.map enT))),(14,.i (es.map enT).length),(15,.i k)]) (fun _=>[rdB l n es i]) h0 (fun k hlt ha=>?_) (fun ha=>?_)
 ·have hx:=at_map enT hlt
  rw[tagFrom_step hlt]at ha
  have hu:=he.tags _ (List.getElem_mem hlt)
  generalize es[k]=u at*
  have hs:=indexS_sound u.tags s (by omega)
  unfold enT at hx
  have hid:idxS s u.tags=match idxOf s 0 u.tags with|some k=>(k:Int)|none=>-1:=rfl
  have hlt2:=fun j=>@idxOf_lt s u.tags 0 j
  generalize idxS s u.tags=w at*
  cases hq:idxOf s 0 u.tags with
  | some j=>
    rw[hq]at ha hid
    have:=hlt2 j hq
    simp only at ha hid
    subst ha hid
    repeat' (first|refine wkt ?_|refine wka ?_|refine wk ?_|exact wkc|intro hc|refine wk2 ?_ ?_|refine wv hs ?_|fail)
    all_goals first
     | exact RetK.keep 1 rfl (Le.refl _) rfl rfl rfl rfl rfl ⟨rfl,rfl⟩
     | (exfalso;omega)
  | none=>
    rw[hq]at ha hid
    simp only at ha hid
    subst hid
    repeat' (first|refine wkt ?_|refine wka ?_|refine wk ?_|exact wkc|intro hc|refine wk2 ?_ ?_|refine wv hs ?_|fail)
    all_goals first
     | exact LoopK.nextN hlt ha
     | exact LoopK.nextC 1 hlt ha rfl rfl rfl rfl rfl
 ·rw[List.drop_of_length_le (Nat.le_refl _)]at ha
  subst ha
  repeat' (first|refine wu ?_|exact wkc|intro hc|refine wk2 ?_ ?_|fail)
  exact RetK.keep 1 rfl (Le.refl _) rfl rfl rfl rfl rfl ⟨rfl,rfl⟩
set_option maxHeartbeats 1000000 in
theorem aTagP_sound (l:List Tok) (n:Int) (es:List En) (i:Nat) (hl:l.length≤1000000) (hi:i≤l.length) (he:EsOk es):
  RdS l n es 111 [] i ((rdr l es).aTag i) (.tup [.i ((((rdr l es).aTag i).vl (0,0)).1:Nat),.i ((((rdr l es).aTag i).vl (0,0)).2:Nat)]):=by
 have ht1:=take_sound l n es i [116,114,117,101] hl hi
 have ht2:=take_sound l n es i [102,97,108,115,101] hl hi
 have hid:=idP_sound l n es i hl hi
 have hr:(rdr l es).aTag i=(rdr l es).aTag i:=rfl
 conv at hr=>rhs;unfold Rd.aTag
 have hin:=id_in (R:=rdr l es) (i:=i) (by rw[rdr_len];exact hi)
 rw[rdr_len]at hin
 generalize (rdr l es).aTag i=r at*
 generalize (rdr l es).isAt i [116,114,117,101]=b1 at*
 generalize (rdr l es).isAt i [102,97,108,115,101]=b2 at*
 refine Sound.err rfl (fun _=>rfl) ?_
 cases b1 with
 | true=>
   rw[if_pos rfl]at hr ht1
   refine so Tryz.func111 ?_
   repeat' (first|refine wu ?_|exact wkc|intro hc|refine wk2 ?_ ?_|refine wd ht1 ?_|fail)
   apply rdV hr
   ·exact rfl
   ·rw[hr];exact Le.refl _
   all_goals exact rfl
 | false=>
 rw[if_neg (by decide)]at hr ht1
 cases b2 with
 | true=>
   rw[if_pos rfl]at hr ht2
   refine so Tryz.func111 ?_
   repeat' (first|refine wu ?_|exact wkc|intro hc|refine wk2 ?_ ?_|refine wd ht1 ?_|refine wd ht2 ?_|fail)
   apply rdV hr
   ·exact rfl
   ·rw[hr];exact Le.refl _
   all_goals exact rfl
 | false=>
 rw[if_neg (by decide)]at hr ht2
 cases hq:(rdr l es).id i with
 | er k c=>
   rw[hq]at hid hr hin
   have hc0:=hin.2
   replace hid:=hid.er
   refine so Tryz.func111 ?_
   repeat' (first|refine wu ?_|exact wkc|intro hc|refine wk2 ?_ ?_|refine wd ht1 ?_|refine wd ht2 ?_|refine we hid ?_ ?_|fail)
   exact rdP hr hc0
 | ok s j=>
   rw[hq]at hid hr hin
   obtain⟨hj1,hj2⟩:=hin
   have htg:=tagP_sound l n es j s he
   have hf:=fail_sound l n es j (j-1) 6 (by decide) hl
   rw[show((j-1:Nat):Int)=(j:Int)-1 by omega]at hf
   simp only[PR.bind]at hr
   replace hid:=hid.ok
   cases hq2:(rdr l es).tag s with
   | some tv=>
     rw[hq2]at htg hr
     unfold tagR at htg
     refine so Tryz.func111 ?_
     repeat' (first|refine wu ?_|exact wkc|intro hc|refine wk2 ?_ ?_|refine wd ht1 ?_|refine wd ht2 ?_|refine we hid ?_ ?_|refine wd htg ?_|fail)
     apply rdV hr
     ·exact rfl
     ·rw[hr];exact Le.refl _
     all_goals exact rfl
   | none=>
     rw[hq2]at htg hr
     unfold tagR at htg
     refine so Tryz.func111 ?_
     repeat' (first|refine wu ?_|exact wkc|intro hc|refine wk2 ?_ ?_|refine wd ht1 ?_|refine wd ht2 ?_|refine we hid ?_ ?_|refine wd htg ?_|refine we hf ?_ ?_|fail)
     exact rdP hr (by decide)
theorem tag_val{l:List Tok}{es:List En}(he:EsOk es){s:Str}{tv:Nat×Nat}(h:(rdr l es).tag s=some tv):3≤tv.1/\tv.1<3+es.length/\∃u,es[tv.1-3]?=some u/\tv.2<u.tags.length:=by
 obtain⟨h1,h2,u,h3,h4⟩:=tagFrom_lt (k:=0) h
 exact⟨by omega,by simpa using h2,u,by simpa using h3,h4⟩
theorem aTag_val{l:List Tok}{es:List En}(he:EsOk es){i j:Nat}{tv:Nat×Nat}(h:(rdr l es).aTag i= .ok tv j):(tv.1≤6000000/\tv.2≤3000000)/\(tv.1=1/\tv.2≤1\/3≤tv.1/\∃u,es[tv.1-3]?=some u/\tv.2<u.tags.length):=by
 unfold Rd.aTag at h
 split at h
 ·cases h;exact⟨⟨by decide,by decide⟩,.inl ⟨rfl,by decide⟩⟩
 ·split at h
  ·cases h;exact⟨⟨by decide,by decide⟩,.inl ⟨rfl,by decide⟩⟩
  ·cases hq:(rdr l es).id i with
   | er k c=>rw[hq]at h;cases h
   | ok s j2=>
     rw[hq]at h
     simp only[PR.bind]at h
     cases hq2:(rdr l es).tag s with
     | none=>rw[hq2]at h;cases h
     | some x=>
       rw[hq2]at h
       cases h
       obtain⟨h1,h2,u,h3,h4⟩:=tag_val he hq2
       have:=he.len
       have:=he.tags u (List.mem_of_getElem? h3)
       exact⟨⟨by omega,by omega⟩,.inr ⟨h1,u,h3,h4⟩⟩
theorem vlE{α:Type}(d v:α)(j:Nat):PR.vl d (.ok v j)=v:=rfl
theorem toI_val{x:Int}(h:-9223372036854775808≤x/\x≤9223372036854775807):(toI x).1=x:=by unfold toI;rw[dif_pos h]
set_option maxHeartbeats 1000000 in
theorem samplingP_sound (l:List Tok) (n:Int) (es:List En) (i:Nat) (hl:l.length≤1000000) (hi:i≤l.length) (he:EsOk es) (d:OnC):
  RdS l n es 98 [] i ((rdr l es).sampling i) (.t (onT (((rdr l es).sampling i).vl d))):=by
 have h1:=aTagP_sound l n es i hl hi he
 have hr:(rdr l es).sampling i=(rdr l es).sampling i:=rfl
 conv at hr=>rhs;unfold Rd.sampling
 have hin:=aTag_in (R:=rdr l es) (i:=i) (by rw[rdr_len];exact hi)
 rw[rdr_len]at hin
 generalize (rdr l es).sampling i=r at*
 refine Sound.err rfl (fun _=>rfl) ?_
 cases hq1:(rdr l es).aTag i with
 | er k c=>
   rw[hq1]at h1 hr hin
   have hc0:=hin.2
   replace h1:=h1.er
   refine so Tryz.func98 ?_
   repeat' (first|refine wu ?_|exact wkc|intro hc|refine wk2 ?_ ?_|refine we h1 ?_ ?_|fail)
   exact rdP hr hc0
 | ok tv j=>
 rw[hq1]at h1 hr hin
 replace h1:=h1.ok
 obtain⟨_,hj⟩:=hin
 have h2:=mustP_sound l n es j [[40]] hl hj (by decide)
 have hin:=must_in (R:=rdr l es) [[40]] (i:=j) (by rw[rdr_len];exact hj)
 rw[rdr_len]at hin
 simp only[PR.bind]at hr
 cases hq2:(rdr l es).must [[40]] j with
 | er k c=>
   rw[hq2]at h2 hr hin
   have hc0:=hin.2
   replace h2:=h2.er
   refine so Tryz.func98 ?_
   repeat' (first|refine wu ?_|exact wkc|intro hc|refine wk2 ?_ ?_|refine we h1 ?_ ?_|refine we h2 ?_ ?_|fail)
   exact rdP hr hc0
 | ok _ j2=>
 rw[hq2]at h2 hr hin
 replace h2:=h2.ok
 obtain⟨_,hj2⟩:=hin
 have h3:=idP_sound l n es j2 hl hj2
 have hin:=id_in (R:=rdr l es) (i:=j2) (by rw[rdr_len];exact hj2)
 rw[rdr_len]at hin
 simp only[PR.bind]at hr
 cases hq3:(rdr l es).id j2 with
 | er k c=>
   rw[hq3]at h3 hr hin
   have hc0:=hin.2
   replace h3:=h3.er
   refine so Tryz.func98 ?_
   repeat' (first|refine wu ?_|exact wkc|intro hc|refine wk2 ?_ ?_|refine we h1 ?_ ?_|refine we h2 ?_ ?_|refine we h3 ?_ ?_|fail)
   exact rdP hr hc0
 | ok s j3=>
 rw[hq3]at h3 hr hin
 replace h3:=h3.ok
 obtain⟨_,hj3⟩:=hin
 have h4:=mustP_sound l n es j3 [[41]] hl hj3 (by decide)
 have hin:=must_in (R:=rdr l es) [[41]] (i:=j3) (by rw[rdr_len];exact hj3)
 rw[rdr_len]at hin
 simp only[PR.bind]at hr
 cases hq4:(rdr l es).must [[41]] j3 with
 | er k c=>
   rw[hq4]at h4 hr hin
   have hc0:=hin.2
   replace h4:=h4.er
   refine so Tryz.func98 ?_
   repeat' (first|refine wu ?_|exact wkc|intro hc|refine wk2 ?_ ?_|refine we h1 ?_ ?_|refine we h2 ?_ ?_|refine we h3 ?_ ?_|refine we h4 ?_ ?_|fail)
   exact rdP hr hc0
 | ok _ j4=>
 rw[hq4]at h4 hr
 replace h4:=h4.ok
 simp only at hr
 rw[vlE]at h1 h3
 have htv:(tv.1:Int)≤9223372036854775807/\(tv.2:Int)≤9223372036854775807:=by
  have:=aTag_val he hq1
  omega
 have e1:=toI_val (x:=tv.1) (by omega)
 have e2:=toI_val (x:=tv.2) (by omega)
 refine so Tryz.func98 ?_
 repeat' (first|refine wu ?_|exact wkc|intro hc|refine wk2 ?_ ?_|refine we h1 ?_ ?_|refine we h2 ?_ ?_|refine we h3 ?_ ?_|refine we h4 ?_ ?_|fail)
 apply rdV hr
 ·exact rfl
 ·rw[hr,vlE]
  show Le _ (.t (.ag [.s s,T.i (toI tv.1).1,T.i (toI tv.2).1]))
  rw[e1,e2]
  exact Le.tree rfl (TLe.refl _)
 all_goals exact rfl
end Go.Proofs.YtlfdkafebmdoiaaGreat
namespace Go.Proofs.YtlfdkafebmdoiaaGreat
open Go Go.TL
variable {H:Type}
theorem strP_in{d:DataW H}{y:T}(h:y=mkT (aggB Tryz.prog 9) y.cells/\∃n,TyD Tryz.prog n 9 d y.cells):∃s:Str,y=T.s s/\s.length≤2*Rows.uptoBulk d:=by
 obtain⟨h1,n,h2⟩:=h
 obtain⟨s,hs⟩:=ty_s h2
 have ha:aggB Tryz.prog 9=false:=by unfold aggB;rw[Tryz.underlying9]
 have:=tyD_w plainL tilesL n _ (by decide +kernel) d y.cells h2
 rw[ha,hs]at h1
 refine⟨s,h1,?_⟩
 rw[hs]at this
 simp only[List.map_cons,List.map_nil,List.sum_cons,List.sum_nil,w_s]at this
 omega
theorem en_w{u:En}:u.tags.length≤(enT u).w:=by
 rw[enT,w_ag];simp only[List.map_cons,List.map_nil,List.sum_cons,List.sum_nil,w_s]
 have:=w_lenM T.s 1 u.tags
 omega
theorem ensP_in{d:DataW H}{y:T}(h:y=mkT (aggB Tryz.prog 24) y.cells/\∃n,TyD Tryz.prog n 24 d y.cells)(hb:Rows.uptoBulk d≤1048576):∃l:List En,y= .sl 2 (l.map enT)/\EsOk l:=by
 obtain⟨h1,n,h2⟩:=h
 obtain⟨l,hl⟩:=ty_sl enT Tryz.underlying24 cz_ens h2 (fun k hk d ts ht=>by
  obtain⟨u,hu⟩:=ty_en ht
  exact⟨u,by rw[agg_en,hu]⟩)
 have ha:aggB Tryz.prog 24=false:=by unfold aggB;rw[Tryz.underlying24]
 have:=tyD_w plainL tilesL n _ (by decide +kernel) d y.cells h2
 rw[ha,hl]at h1
 refine⟨l,h1,?_⟩
 rw[hl]at this
 simp only[List.map_cons,List.map_nil,List.sum_cons,List.sum_nil]at this
 have h5:=w_lenM enT 2 l
 refine⟨by omega,fun u hu=>?_⟩
 have h6:=w_inM (f:=enT) (sz:=2) hu
 have h7:=@en_w u
 omega
theorem ty_u16{n:Nat}{d:DataW H}{ts:List T}(h:TyD Tryz.prog n 42 d ts):∃c:Nat,c≤65535/\ts=[.v (.int .u16 (c:Int))]:=by
 cases n with
 | zero=>exact h.elim
 | succ n=>
   simp only[TyD,Tryz.underlying42]at h
   obtain⟨i,rfl,rfl,hw⟩:=h
   have h2:0≤i/\i≤65535:=by
    simpa [Lit.wf,IntKind.min,IntKind.max,IntKind.signed,IntKind.bits]using hw
   refine⟨i.toNat,by omega,?_⟩
   rw[show(i.toNat:Int)=i by omega]
theorem u16_in{d:DataW H}{y:T}(h:y=mkT (aggB Tryz.prog 42) y.cells/\∃n,TyD Tryz.prog n 42 d y.cells):∃c:Nat,c≤65535/\y= .v (.int .u16 (c:Int)):=by
 obtain⟨h1,n,h2⟩:=h
 obtain⟨c,hc0,hc⟩:=ty_u16 h2
 have ha:aggB Tryz.prog 42=false:=by unfold aggB;rw[Tryz.underlying42]
 rw[ha,hc]at h1
 exact⟨c,hc0,h1⟩
theorem boolP_in{d:DataW H}{y:T}(h:y=mkT (aggB Tryz.prog 4) y.cells/\∃n,TyD Tryz.prog n 4 d y.cells):∃b:Bool,y= .v (.bool b):=by
 obtain⟨h1,n,h2⟩:=h
 obtain⟨b,hb⟩:=ty_b h2
 have ha:aggB Tryz.prog 4=false:=by unfold aggB;rw[Tryz.underlying4]
 rw[ha,hb]at h1
 exact⟨b,h1⟩
def parL:List TypeId:=[24,72,55,9,4,42]
theorem plainP:plainSetB Tryz.prog parL=true:=by kernel_rfl
end Go.Proofs.YtlfdkafebmdoiaaGreat
