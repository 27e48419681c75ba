import Derived.Test.YtpfnfpaahefdaaaGreatPk31
set_option linter.all false
namespace Go.Proofs.YtpfnfpaahefdaaaGreat
open Go Go.TL
attribute [local irreducible] TR TO Then zab RetK Sound zac Kf GG za2
abbrev rdT (l:List Tok)(n:Int)(es:List En)(i:Nat):Blk:=.cells [.t (.sl 3 (l.map tokT)),.i n,.i i,.sl 2 (es.map enT) 1]
abbrev tlT (es:List En):Blk:=.tail (es.map enT).length
abbrev RdT {α:Type}(l:List Tok)(n:Int)(es:List En)(f:FuncId)(args:List SV)(i:Nat)(r:PR α)(v:SV):Prop:=
 Sound Tryz.prog f (.ref 0 0::args) [rdT l n es i,tlT es] (Err r.code v (zb6 l n r.at r.code) [rdT l n es r.at,tlT es])
section
variable {l:List Tok}{n:Int}{es:List En}{α:Type}{r:PR α}{rs:List ResultVar}{env:Env}{H:Heap}{v:SV}{j k:Nat}{c:Int}
theorem rdPT(h:r= .er k c)(hc:c≠0)(hN:Nat.ble 2 H.length=true:=by exact rfl)(hb:zad H.length H=true:=by exact rfl):RetK tab rs 2 (Err0 r.code v (zb6 l n r.at r.code) [rdT l n es r.at,tlT es] 2) (.panic (zb6 l n k c)) env H:=by
 subst h;exact RetK.errP hc hN rfl hb
theorem rdVT{x:α}{vs:List SV}(h:r= .ok x j)(hr:zb1 tab env H rs=some vs)(hl:Le (pack vs) v)(hu:v.under 2=true)(hk:Nat.ble 2 H.length=true)(ht:H.take 2=[rdT l n es j,tlT es]):RetK tab rs 2 (Err0 r.code v (zb6 l n r.at r.code) [rdT l n es r.at,tlT es] 2) .ret env H:=by
 subst h;exact RetK.errV rfl hr hl rfl hk hu ht rfl
theorem rdNT{x:α}{vs:List SV}(h:r= .ok x j)(hr:zb1 tab env H rs=some vs)(hl:Le (pack vs) v)(hu:v.under 2=true)(hk:Nat.ble 2 H.length=true)(ht:H.take 2=[rdT l n es j,tlT es]):RetK tab rs 2 (Err0 r.code v (zb6 l n r.at r.code) [rdT l n es r.at,tlT es] 2) .normal env H:=by
 subst h;exact RetK.errN rfl hr hl rfl hk hu ht rfl
end
theorem zmd(l:List Tok)(n:Int)(es:List En)(i k:Nat)(hl:l.length≤1000000):Sound Tryz.prog 70 [.ref 0 0,.i k] [rdT l n es i,tlT es] (fun r H'=>r= .ret (.i (placeOf l n k))/\H'=[rdT l n es i,tlT es]):=by
 have hml:(l.map tokT).length=l.length:=qad _
 unfold placeOf
 by_cases hk:k<l.length
 ·have hx:=zcK hk
  rw[qab hk]
  generalize l[k]=t at*
  exact zwcd
 ·rw[qaG (by omega)]
  exact zwcd
theorem zej(l:List Tok)(n:Int)(es:List En)(i k:Nat)(c:Int)(hc0:c≠0)(hl:l.length≤1000000):Sound Tryz.prog 43 [.ref 0 0,.i k,.i c] [rdT l n es i,tlT es] (Err c (.tup []) (zb6 l n k c) [rdT l n es k,tlT es]):=by
 have ha:=zmd l n es i k hl
 exact zwz
theorem zjE(l:List Tok)(n:Int)(es:List En)(i k:Nat)(s:Str)(hl:l.length≤1000000):Sound Tryz.prog 66 [.ref 0 0,.i k,.s s] [rdT l n es i,tlT es] (fun r H'=>r= .ret (.b ((rdr l es).isAt k s))/\H'=[rdT l n es i,tlT es]):=by
 have hml:(l.map tokT).length=l.length:=qad _
 unfold Rd.isAt
 simp only[qar]
 by_cases hk:k<l.length
 ·have hx:=zcK hk
  rw[qab hk]
  generalize l[k]=t at*
  simp only[qaX]
  refine so Tryz.func66 ?_
  repeat' (first|refine wu ?_|exact wkc|intro hc|refine wk2 ?_ ?_|fail)
  all_goals exact zwcq
 ·rw[qaG (by omega)]
  refine so Tryz.func66 ?_
  repeat' (first|refine wu ?_|exact wkc|intro hc|refine wk2 ?_ ?_|fail)
  exact zwft
theorem ziA(l:List Tok)(n:Int)(es:List En)(i:Nat)(s:Str)(hl:l.length≤1000000):Sound Tryz.prog 36 [.ref 0 0,.s s] [rdT l n es i,tlT es] (fun r H'=>r= .ret (.b ((rdr l es).isAt i s))/\H'=[rdT l n es i,tlT es]):=by
 have h:=zjE l n es i i s hl
 refine so Tryz.func36 ?_
 repeat' (first|refine wu ?_|exact wkc|intro hc|refine wk2 ?_ ?_|refine wd h ?_|fail)
 exact zwft
theorem zgi(l:List Tok)(n:Int)(es:List En)(i:Nat)(k:Int)(hl:l.length≤1000000):Sound Tryz.prog 40 [.ref 0 0,.i k] [rdT l n es i,tlT es] (fun r H'=>r= .ret (.b ((rdr l es).kind i k))/\H'=[rdT l n es i,tlT es]):=by
 have hml:(l.map tokT).length=l.length:=qad _
 unfold Rd.kind
 simp only[qar]
 by_cases hk:i<l.length
 ·have hx:=zcK hk
  rw[qab hk]
  generalize l[i]=t at*
  simp only[qaX]
  refine so Tryz.func40 ?_
  repeat' (first|refine wu ?_|exact wkc|intro hc|refine wk2 ?_ ?_|fail)
  all_goals exact zwcq
 ·rw[qaG (by omega)]
  refine so Tryz.func40 ?_
  repeat' (first|refine wu ?_|exact wkc|intro hc|refine wk2 ?_ ?_|fail)
  exact zwft
theorem zgG(l:List Tok)(n:Int)(es:List En)(i:Nat)(s:Str)(hl:l.length≤1000000)(hi:i≤l.length):Sound Tryz.prog 41 [.ref 0 0,.s s] [rdT l n es i,tlT es] (fun r H'=>r= .ret (.b ((rdr l es).isAt i s))/\H'=[rdT l n es (if(rdr l es).isAt i s=true then i+1 else i),tlT es]):=by
 have h:=ziA l n es i s hl
 generalize (rdr l es).isAt i s=b at*
 cases b
 all_goals
  refine so Tryz.func41 ?_
  repeat' (first|refine wu ?_|exact wkc|intro hc|refine wk2 ?_ ?_|refine wd h ?_|fail)
  exact RetK.keep 2 rfl (Le.refl _) rfl rfl rfl rfl rfl ⟨rfl,rfl⟩
set_option maxHeartbeats 1000000 in
theorem ziJ (l:List Tok) (n:Int) (es:List En) (i:Nat) (ss:List Str) (hl:l.length≤1000000) (hi:i≤l.length) (hs:ss.length≤1000):RdT l n es 39 [.t (.sl 1 (ss.map T.s))] i ((rdr l es).must ss i) (.tup []):=by
 have hml:(ss.map T.s).length=ss.length:=qad _
 have h0:(rdr l es).must ss i=(rdr l es).must (ss.drop 0) (i+0):=rfl
 generalize (rdr l es).must ss i=r at*
 refine Sound.err rfl (fun _=>rfl) ?_
 refine so Tryz.func39 ?_
 repeat' (first|refine wu ?_|exact wkc|intro hc|refine wk2 ?_ ?_|fail)
 refine TR.zbv ss.length (fun k=>r=(rdr l es).must (ss.drop k) (i+k)/\i+k≤l.length) (fun k=>[(0,.ref 0 0),(6,.t (.sl 1 (ss.map T.s))),(7,.i (ss.map T.s).length),(8,.i k)]) (fun k=>[rdT l n es (i+k:Nat),tlT es]) ⟨h0,hi⟩ (fun k hlt ha=>?_) (fun ha=>?_)
 ·obtain⟨ha,hk⟩:=ha
  have hx:=zhz hlt
  rw[qaF hlt,Rd.must]at ha
  have ht:=zgG l n es (i+k) ss[k] hl hk
  have hf:=zej l n es (i+k) (i+k) 5 (by decide) hl
  have hlt2:=@zam (rdr l es) (i+k) ss[k]
  rw[zaf]at hlt2
  generalize ss[k]=s at*
  generalize (rdr l es).isAt (i+k) s=b at*
  cases b with
  | true=>
    rw[if_pos rfl]at ha ht
    repeat' (first|refine wu ?_|exact wkc|intro hc|refine wk2 ?_ ?_|refine wd ht ?_|fail)
    exact zac.zb0 hlt ⟨ha,by have:=hlt2 rfl;omega⟩
  | false=>
    rw[if_neg (by decide)]at ha ht
    repeat' (first|refine wu ?_|exact wkc|intro hc|refine wk2 ?_ ?_|refine wd ht ?_|refine we hf ?_ ?_|fail)
    repeat' (first|refine zac.panic ?_|refine wk ?_|fail)
    exact rdPT ha (by decide)
 ·obtain⟨ha,hk⟩:=ha
  rw[qaZ (qae _)]at ha
  repeat' (first|refine wu ?_|exact wkc|intro hc|refine wk2 ?_ ?_|fail)
  exact rdNT (vs:=[]) ha rfl (Le.refl _) rfl rfl rfl
theorem zlv(l:List Tok)(n:Int)(es:List En)(i:Nat)(hl:l.length≤1000000)(hi:i≤l.length):RdT l n es 38 [] i ((rdr l es).id i) (.s (((rdr l es).id i).vl [])):=by
 have hml:(l.map tokT).length=l.length:=qad _
 have hk:=zgi l n es i 1 hl
 have hf:=zej l n es i i 5 (by decide) hl
 have hlt:=@zcu (rdr l es) i 1
 rw[zaf]at hlt
 have hr:(rdr l es).id i=if(rdr l es).kind i 1=true then .ok ((rdr l es).txt i) (i+1) else .er i 5:=rfl
 have htx:∀h:i<l.length,(rdr l es).txt i=l[i].2.1:=fun h=>by
  exact zwep
 generalize (rdr l es).id i=r at*
 generalize (rdr l es).kind i 1=b at*
 refine Sound.err rfl (fun _=>rfl) ?_
 cases b with
 | true=>
   have hx:=zcK (hlt rfl)
   rw[if_pos rfl,htx (hlt rfl)]at hr
   have hlt:=hlt rfl
   have hx':(l.map tokT)[((i:Int)+1-1).toNat]?=some (.ag [T.i l[i].1,.s l[i].2.1,T.i l[i].2.2]):=by rw[show((i:Int)+1-1).toNat=i by omega];exact hx
   clear htx
   generalize l[i]=t at*
   refine so Tryz.func38 ?_
   repeat' (first|refine wu ?_|exact wkc|intro hc|refine wk2 ?_ ?_|refine wd hk ?_|fail)
   apply rdVT hr
   ·exact rfl
   ·rw[hr];exact Le.refl _
   all_goals exact rfl
 | false=>
   rw[if_neg (by decide)]at hr
   refine so Tryz.func38 ?_
   repeat' (first|refine wu ?_|exact wkc|intro hc|refine wk2 ?_ ?_|refine wd hk ?_|refine we hf ?_ ?_|fail)
   exact rdPT hr (by decide)
theorem zhK(l:List Tok)(n:Int)(es:List En)(i:Nat)(a most:Nat)(hl:l.length≤1000000):RdT l n es 37 [.i a,.i most] i (limR a most i) (.tup []):=by
 have hf:=zej l n es i i 3 (by decide) hl
 unfold limR
 by_cases h:most≤a
 ·rw[if_pos h]
  refine Sound.err rfl (fun _=>rfl) ?_
  refine so Tryz.func37 ?_
  repeat' (first|refine wu ?_|exact wkc|intro hc|refine wk2 ?_ ?_|refine we hf ?_ ?_|fail)
  exact rdPT rfl (by decide)
 ·rw[if_neg h]
  refine Sound.err rfl (fun _=>rfl) ?_
  refine so Tryz.func37 ?_
  repeat' (first|refine wu ?_|exact wkc|intro hc|refine wk2 ?_ ?_|refine we hf ?_ ?_|fail)
  exact rdNT (vs:=[]) rfl rfl (Le.refl _) rfl rfl rfl
theorem zl3{R:Rd}:∀ {m:Nat} {a:List En} {i:Nat},R.isAt i [116,121,112,101]=false->R.types m a i= .ok a i
 | 0,_,_,_=>rfl
 | m+1,a,i,h1=>by rw[Rd.types,h1,if_neg (by decide)]
theorem zlJ{R:Rd}:∀ {m:Nat} {a:List Nod} {i:Nat},R.isAt i [110,111,100,101]=false->R.nodes m a i= .ok a i
 | 0,_,_,_=>rfl
 | m+1,a,i,h1=>by rw[Rd.nodes,h1,if_neg (by decide)]
theorem zjK(u:Nod):nodT u= .ag [.s u.name,.sl 3 (u.ins.map zag),.sl 3 (u.outs.map zag),.sl 3 (u.locals.map zag),.sl 7 (u.eqs.map equT),.sl 1 (u.autos.map zaG),.sl 6 (u.assume.map exT),.sl 6 (u.ensure.map exT)]:=rfl
abbrev prZ:Blk:=.cells [.t (.v (.slice none 0 0)),.t (.v (.slice none 0 0))]
end Go.Proofs.YtpfnfpaahefdaaaGreat
namespace Go.Proofs.YtpfnfpaahefdaaaGreat
open Go Go.TL
attribute [local irreducible] TR TO Then zab RetK Sound zac Kf GG za2
attribute [local irreducible] zdL
section
variable {α:Type}{l:List Tok}{n:Int}{es:List En}{f:FuncId}{args:List SV}{i:Nat}{v:SV}
theorem RdT.ok{x:α}{j:Nat}(h:RdT l n es f args i (.ok x j) v):Sound Tryz.prog f (.ref 0 0::args) [rdT l n es i,tlT es] (Err 0 v (zb6 l n j 0) [rdT l n es j,tlT es]):=h
theorem RdT.er{k:Nat}{c:Int}(h:RdT (α:=α) l n es f args i (.er k c) v):Sound Tryz.prog f (.ref 0 0::args) [rdT l n es i,tlT es] (Err c v (zb6 l n k c) [rdT l n es k,tlT es]):=h
end
theorem isN(l:List Tok)(n:Int)(es:List En)(i:Nat)(s:Str)(hl:l.length≤1000000):Sound Tryz.prog 36 [.ref 0 0,.s s] [rdT l n es i,tlT es] (fun r H'=>r= .ret (.b ((rdr l []).isAt i s))/\H'=[rdT l n es i,tlT es]):=ziA l n es i s hl
theorem zro(l:List Tok)(n:Int)(es:List En)(i:Nat)(k:Int)(hl:l.length≤1000000):Sound Tryz.prog 40 [.ref 0 0,.i k] [rdT l n es i,tlT es] (fun r H'=>r= .ret (.b ((rdr l []).kind i k))/\H'=[rdT l n es i,tlT es]):=zgi l n es i k hl
theorem takeN(l:List Tok)(n:Int)(es:List En)(i:Nat)(s:Str)(hl:l.length≤1000000)(hi:i≤l.length):Sound Tryz.prog 41 [.ref 0 0,.s s] [rdT l n es i,tlT es] (fun r H'=>r= .ret (.b ((rdr l []).isAt i s))/\H'=[rdT l n es (if(rdr l []).isAt i s=true then i+1 else i),tlT es]):=zgG l n es i s hl hi
theorem idN(l:List Tok)(n:Int)(es:List En)(i:Nat)(hl:l.length≤1000000)(hi:i≤l.length):RdT l n es 38 [] i ((rdr l []).id i) (.s (((rdr l []).id i).vl []))/\InR l.length (i+1) ((rdr l []).id i):=⟨zlv l n es i hl hi,(idC l n [] i hl hi).2⟩
theorem limN(l:List Tok)(n:Int)(es:List En)(i a b most:Nat)(hl:l.length≤1000000)(hi:i≤l.length)(hb:a=b):RdT l n es 37 [.i a,.i most] i (limR b most i) (.tup [])/\InR l.length i (limR b most i):=by
 subst hb
 exact⟨zhK l n es i a most hl,(limC l n es i a a most hl hi rfl).2⟩
theorem zmS{R S:Rd}(h:R.K=S.K):∀(ss:List Str) (i:Nat),R.must ss i=S.must ss i
 | [],i=>rfl
 | s::ss,i=>by
   unfold Rd.must
   rw[zmS h ss (i+1),show R.isAt i s=S.isAt i s from by unfold Rd.isAt;rw[h]]
theorem zqS(l:List Tok)(n:Int)(es:List En)(i:Nat)(ss:List Str)(hl:l.length≤1000000)(hi:i≤l.length)(hs:ss.length≤1000):RdT l n es 39 [.t (.sl 1 (ss.map T.s))] i ((rdr l []).must ss i) (.tup [])/\InR l.length (i+ss.length) ((rdr l []).must ss i):=⟨by have h:=ziJ l n es i ss hl hi hs;rw[zmS (R:=rdr l es) (S:=rdr l []) rfl]at h;exact h,(zbr l n [] i ss hl hi hs).2⟩
theorem zmX(l:List Tok)(n:Int)(es:List En)(i:Nat)(hk:TkOk l)(hes:EsOk es)(hi:i≤l.length):RdS l n es 42 [] i ((rdr l es).node (rdr l es).expr i) (.t (nodT (((rdr l es).node (rdr l es).expr i).vl noN)))/\InR l.length (i+1) ((rdr l es).node (rdr l es).expr i):=by
 have h:=zpN (R:=rdr l es) (f:=(rdr l es).expr) (fun j hj=>by rw[zaf]at hj⊢;exact(zeX l n es j hk hes hj).2) (fun j hj=>by rw[zaf]at hj⊢;exact(zfz l n es hk hes 3 0 rfl j hj).2) (i:=i) (by rw[zaf];exact hi)
 rw[zaf]at h
 exact⟨zlI l n es i hk hes hi,h⟩
theorem zhN(p:Prog):zeN p= .ag [.sl 2 (p.enums.map enT),.sl 8 (p.nodes.map nodT)]:=rfl
abbrev rdZ (l:List Tok)(n:Int)(i:Nat):Blk:=.cells [.t (.sl 3 (l.map tokT)),.i n,.i i,.t (.v (.slice none 0 0))]
abbrev RdP (l:List Tok)(n:Int)(f:FuncId)(i:Nat)(r:PR Prog):Prop:=
 Sound Tryz.prog f [.ref 0 0] [rdZ l n i] (Err r.code (.t (zeN (r.vl ⟨[],[]⟩))) (zb6 l n r.at r.code) [rdB l n (r.vl ⟨[],[]⟩).enums r.at])
theorem zkE{R:Rd}{most:Nat}{sep:Str}:∀(m:Nat) {a xs:List Str} {i j:Nat},R.names most sep m a i= .ok xs j->a.length≤most->xs.length≤most
 | 0,a,xs,i,j,h,h1=>by cases h;exact h1
 | m+1,a,xs,i,j,h,h1=>by
   unfold Rd.names Rd.zgS at h
   obtain⟨_,i2,hq,h⟩:=zae h
   obtain⟨s,_,hi,h⟩:=zae h
   have hlt:a.length<most:=by
    split at hq
    ·exact(zbh hq).1
    ·rename_i hk
     cases hq
     unfold Rd.id at hi
     rw[if_neg hk]at hi
     cases hi
   split at h
   ·exact zkE m h (by rw[qal];simp only[qac,qaf];omega)
   ·cases h
    rw[qal];simp only[qac,qaf];omega
theorem zgK{R:Rd}:∀(m:Nat) {a es:List En} {i j:Nat},R.types m a i= .ok es j->a.length≤24->(∀u∈a,u.tags.length≤16)->es.length≤24/\∀u∈es,u.tags.length≤16
 | 0,a,es,i,j,h,h1,h2=>by cases h;exact⟨h1,h2⟩
 | m+1,a,es,i,j,h,h1,h2=>by
   unfold Rd.types at h
   split at h
   ·obtain⟨_,_,hq,h⟩:=zae h
    obtain⟨s,_,_,h⟩:=zae h
    obtain⟨_,_,_,h⟩:=zae h
    obtain⟨tg,_,hn,h⟩:=zae h
    obtain⟨_,_,_,h⟩:=zae h
    have hlt:=(zbh hq).1
    have hn:=zkE _ hn (by simp)
    refine zgK m h (by rw[qal];simp only[qac,qaf];omega) fun u hu=>?_
    rcases qbi.1 hu with hu|hu
    ·exact h2 u hu
    ·simp at hu;subst hu;exact hn
   ·cases h;exact⟨h1,h2⟩
set_option maxHeartbeats 64000000 in
set_option maxRecDepth 20000 in
theorem zhO (l:List Tok) (n:Int) (i:Nat) (hk:TkOk l) (hi:i≤l.length):RdP l n 17 i ((rdr l []).program i):=by
 have hl:=hk.len
 generalize hr:(rdr l []).program i=r
 unfold Rd.program at hr
 refine Sound.err rfl (fun _=>rfl) ?_
 refine so Tryz.func17 ?_
 refine TR.dead ?_
 refine TR.zbM 2 0 3 rfl rfl rfl ?_
 repeat' (first|refine wkb ?_|refine wk ?_|fail)
 refine TR.zbd (ι:=Nat×Nat×List En) (fun x=>i≤x.2.1/\x.2.1≤l.length/\l.length-x.2.1≤x.1/\x.2.2.length≤24/\(∀u∈x.2.2,u.tags.length≤16)/\(((rdr l []).types x.1 x.2.2 x.2.1).bind fun es i=>(Rd.nodes ⟨(rdr l []).K,es⟩ (rdr l []).K.length [] i).bind fun l i=>(.ok ⟨es,l⟩ i:PR Prog))=r) (fun x=>l.length-x.2.1) (fun _=>[(0,.ref 0 0),(2,.ref 2 0),(3,.ref 3 0)]) (fun x=>[rdT l n x.2.2 x.2.1,tlT x.2.2,prZ,prZ]) ((rdr l []).K.length,i,[])
  ⟨by show i≤i;omega,hi,by rw[zaf];show l.length-i≤l.length;omega,by show 0≤24;omega,(fun u hu=>by cases hu),hr⟩ ⟨rfl,rfl,rfl,trivial⟩ rfl ?_
 clear hr
 rintro⟨m0,j0,xs0⟩ ⟨q1,q2,q3,q4,q5,hr⟩
 replace q1:i≤j0:=q1
 replace q2:j0≤l.length:=q2
 replace q3:l.length-j0≤m0:=q3
 replace q4:xs0.length≤24:=q4
 replace q5:∀u∈xs0,u.tags.length≤16:=q5
 replace hr:(((rdr l []).types m0 xs0 j0).bind fun es i=>(Rd.nodes ⟨(rdr l []).K,es⟩ (rdr l []).K.length [] i).bind fun l i=>(.ok ⟨es,l⟩ i:PR Prog))=r:=hr
 have hme:(xs0.map enT).length=xs0.length:=qad _
 have t0:=isN l n xs0 j0 [116,121,112,101] hl
 show TR _ _ _ [(0,.ref 0 0),(2,.ref 2 0),(3,.ref 3 0)] [rdT l n xs0 j0,tlT xs0,prZ,prZ] _
 cases h0:(rdr l []).isAt j0 [116,121,112,101] with
 | true=>
   have hlth0:=zam h0
   rw[zaf]at hlth0
   rw[h0]at t0
   cases m0 with
   | zero=>exfalso;omega
   | succ m0=>
   rw[Rd.types,if_pos h0]at hr
   refine wk ?_
   repeat' (first|refine wkt ?_|refine zqn ?_|refine wd t0 ?_|exact wkc|intro hc|refine wk2 ?_ ?_|fail)
   obtain⟨n3,n3i⟩:=limN l n xs0 j0 (xs0.map enT).length xs0.length 24 hl q2 hme
   cases qn3:limR xs0.length 24 j0 with
   | er ke c=>
     rw[qn3]at n3 n3i hr
     have hc0:=n3i.2
     replace n3:=n3.er
     try simp only[PR.vl]at n3
     simp only[PR.bind]at hr
     repeat' (first|refine wkt ?_|refine zqn ?_|refine we n3 ?_ ?_|exact wkc|intro hc|refine wk2 ?_ ?_|fail)
     repeat' (first|refine zac.panic ?_|refine wk ?_|fail)
     exact rdPX hr.symm hc0 (leB)
   | ok u3 j1=>
   rw[qn3]at n3 n3i hr
   obtain⟨n3a,n3b⟩:=n3i
   replace n3:=n3.ok
   try simp only[PR.vl]at n3
   simp only[PR.bind]at hr
   obtain⟨hlt4,rfl⟩:=zbh qn3
   repeat' (first|refine wkb ?_|refine zqn ?_|refine we n3 ?_ ?_|exact wkc|intro hc|refine wk2 ?_ ?_|fail)
   obtain⟨n4,n4i⟩:=idN l n xs0 (j1+1) hl hlth0
   cases qn4:(rdr l []).id (j1+1) with
   | er ke c=>
     rw[qn4]at n4 n4i hr
     have hc0:=n4i.2
     replace n4:=n4.er
     try simp only[PR.vl]at n4
     simp only[PR.bind]at hr
     repeat' (first|refine wkt ?_|refine zqn ?_|refine we n4 ?_ ?_|refine wk ?_|exact wkc|intro hc|refine wk2 ?_ ?_|fail)
     repeat' (first|refine zac.panic ?_|refine wk ?_|fail)
     exact rdPX hr.symm hc0 (leB)
   | ok nm j2=>
   rw[qn4]at n4 n4i hr
   obtain⟨n4a,n4b⟩:=n4i
   replace n4:=n4.ok
   try simp only[PR.vl]at n4
   simp only[PR.bind]at hr
   repeat' (first|refine wkb ?_|refine zqn ?_|refine we n4 ?_ ?_|refine wk ?_|exact wkc|intro hc|refine wk2 ?_ ?_|fail)
   refine TO.zbM 1 4 1 rfl rfl rfl ?_
   obtain⟨n5,n5i⟩:=zqS l n xs0 j2 [[61]] hl n4b (by decide)
   cases qn5:(rdr l []).must [[61]] j2 with
   | er ke c=>
     rw[qn5]at n5 n5i hr
     have hc0:=n5i.2
     replace n5:=n5.er
     try simp only[PR.vl]at n5
     simp only[PR.bind]at hr
     repeat' (first|refine wkt ?_|refine zqn ?_|refine we n5 ?_ ?_|exact wkc|intro hc|refine wk2 ?_ ?_|fail)
     repeat' (first|refine zac.panic ?_|refine wk ?_|fail)
     exact rdPX hr.symm hc0 (leB)
   | ok u5 jt=>
   rw[qn5]at n5 n5i hr
   obtain⟨n5a,n5b⟩:=n5i
   replace n5:=n5.ok
   try simp only[PR.vl]at n5
   simp only[PR.bind]at hr
   repeat' (first|refine wkt ?_|refine zqn ?_|refine we n5 ?_ ?_|exact wkc|intro hc|refine wk2 ?_ ?_|fail)
   refine TR.zbd (ι:=Nat×Nat×List Str) (fun x=>jt≤x.2.1/\x.2.1≤l.length/\l.length-x.2.1<x.1/\x.2.2.length≤x.2.1/\((((rdr l []).names 16 [124] x.1 x.2.2 x.2.1).bind fun tg i=>((rdr l []).must [[59]] i).bind fun _ i=>(rdr l []).types m0 (xs0++[(⟨nm,tg⟩:En)]) i).bind fun es i=>(Rd.nodes ⟨(rdr l []).K,es⟩ (rdr l []).K.length [] i).bind fun l i=>(.ok ⟨es,l⟩ i:PR Prog))=r) (fun x=>l.length-x.2.1) (fun _=>[(0,.ref 0 0),(4,.ref 4 0),(2,.ref 2 0),(3,.ref 3 0)]) (fun x=>[rdT l n xs0 x.2.1,tlT xs0,prZ,prZ,.cells [.t (.s nm),.sl 1 (x.2.2.map T.s) 5],.tail (x.2.2.map T.s).length]) ((rdr l []).K.length+1,jt,[])
    ⟨by show jt≤jt;omega,n5b,by rw[zaf];show l.length-jt<l.length+1;omega,by show 0≤jt;omega,hr⟩ ⟨rfl,rfl,rfl,rfl,trivial⟩ rfl ?_
   clear hr
   rintro⟨m,j,xs⟩ ⟨q1,q2,q3,q4,hr⟩
   replace q1:jt≤j:=q1
   replace q2:j≤l.length:=q2
   replace q3:l.length-j<m:=q3
   replace q4:xs.length≤j:=q4
   replace hr:((((rdr l []).names 16 [124] m xs j).bind fun tg i=>((rdr l []).must [[59]] i).bind fun _ i=>(rdr l []).types m0 (xs0++[(⟨nm,tg⟩:En)]) i).bind fun es i=>(Rd.nodes ⟨(rdr l []).K,es⟩ (rdr l []).K.length [] i).bind fun l i=>(.ok ⟨es,l⟩ i:PR Prog))=r:=hr
   have hml:(xs.map T.s).length=xs.length:=qad _
   cases m with
   | zero=>exfalso;omega
   | succ m=>
   rw[Rd.names,Rd.zgS]at hr
   have t1:=zro l n xs0 j 1 hl
   cases h1:(rdr l []).kind j 1 with
   | true=>
     have hlth1:=zcu h1
     rw[zaf]at hlth1
     rw[h1]at t1
     rw[if_pos h1]at hr
     refine wk ?_
     repeat' (first|refine wkt ?_|refine zqn ?_|refine wd t1 ?_|exact wkc|intro hc|refine wk2 ?_ ?_|fail)
     obtain⟨m3,m3i⟩:=limN l n xs0 j (xs.map T.s).length xs.length 16 hl q2 hml
     cases qm3:limR xs.length 16 j with
     | er ke c=>
       rw[qm3]at m3 m3i hr
       have hc0:=m3i.2
       replace m3:=m3.er
       try simp only[PR.vl]at m3
       simp only[PR.bind]at hr
       repeat' (first|refine wkt ?_|refine zqn ?_|refine we m3 ?_ ?_|exact wkc|intro hc|refine wk2 ?_ ?_|fail)
       repeat' (first|refine zac.panic ?_|refine wk ?_|fail)
       exact rdPX hr.symm hc0 (leB)
     | ok u3 j3=>
     rw[qm3]at m3 m3i hr
     obtain⟨m3a,m3b⟩:=m3i
     replace m3:=m3.ok
     try simp only[PR.vl]at m3
     simp only[PR.bind]at hr
     obtain⟨hlt4,rfl⟩:=zbh qm3
     repeat' (first|refine wkt ?_|refine zqn ?_|refine we m3 ?_ ?_|exact wkc|intro hc|refine wk2 ?_ ?_|fail)
     obtain⟨m4,m4i⟩:=idN l n xs0 j3 hl q2
     cases qm4:(rdr l []).id j3 with
     | er ke c=>
       rw[qm4]at m4 m4i hr
       have hc0:=m4i.2
       replace m4:=m4.er
       try simp only[PR.vl]at m4
       simp only[PR.bind]at hr
       refine rgX 3 (g:=False) [(.ref 4 1,0,1),(.sl 1 (xs.map T.s) 5,0,1),(.ref 0 0,0,1),(.t (T.s []),1,0),(.t (.sl 1 [T.s []]),1,1),(.sl 1 ((xs.map T.s)++[T.s []]) 5,1,0),(.ref 4 1,0,2),(.t (.v undef),1,0)] [[rdT l n xs0 j3,tlT xs0,prZ,prZ,.cells [.t (.s nm),.sl 1 (xs.map T.s) 5],.tail ((xs.map T.s)).length],[rdT l n xs0 j3,tlT xs0,prZ,prZ,.cells [.t (.s nm),.sl 1 (xs.map T.s) 5],.tail ((xs.map T.s)).length],[rdT l n xs0 j3,tlT xs0,prZ,prZ,.cells [.t (.s nm),.sl 1 (xs.map T.s) 5],.tail (((xs.map T.s)).length+1)],[rdT l n xs0 j3,tlT xs0,prZ,prZ,.cells [.t (.s nm),.sl 1 ((xs.map T.s)++[T.s []]) 5],.tail (((xs.map T.s)).length+1)]] ?_ (fun h=>h.elim)
       repeat' (first|refine wkt ?_|exact trivial|exact⟨⟨rfl,rfl⟩,trivial⟩|refine qai (fun env=>?_) ?_|refine qai ?_ ?_|refine we m4 ?_ ?_|refine wk ?_|exact wkc|intro hc|refine wk2 ?_ ?_|fail)
       repeat' (first|refine zac.panic ?_|refine wk ?_|fail)
       exact rdPX hr.symm hc0 (leB)
     | ok o k=>
     rw[qm4]at m4 m4i hr
     obtain⟨m4a,m4b⟩:=m4i
     replace m4:=m4.ok
     try simp only[PR.vl]at m4
     simp only[PR.bind]at hr
     refine rgX 3 (g:=True) [(.ref 4 1,0,1),(.sl 1 (xs.map T.s) 5,0,1),(.ref 0 0,0,1),(.t (T.s o),1,0),(.t (.sl 1 [T.s o]),1,1),(.sl 1 ((xs.map T.s)++[T.s o]) 5,1,0),(.ref 4 1,0,2),(.t (.v undef),1,0)] [[rdT l n xs0 j3,tlT xs0,prZ,prZ,.cells [.t (.s nm),.sl 1 (xs.map T.s) 5],.tail ((xs.map T.s)).length],[rdT l n xs0 k,tlT xs0,prZ,prZ,.cells [.t (.s nm),.sl 1 (xs.map T.s) 5],.tail ((xs.map T.s)).length],[rdT l n xs0 k,tlT xs0,prZ,prZ,.cells [.t (.s nm),.sl 1 (xs.map T.s) 5],.tail (((xs.map T.s)).length+1)],[rdT l n xs0 k,tlT xs0,prZ,prZ,.cells [.t (.s nm),.sl 1 ((xs.map T.s)++[T.s o]) 5],.tail (((xs.map T.s)).length+1)]] ?_ (fun _=>?_)
     ·repeat' (first|refine wkt ?_|exact trivial|exact⟨⟨rfl,rfl⟩,trivial⟩|refine qai (fun env=>?_) ?_|refine qai ?_ ?_|refine we m4 ?_ ?_|refine wk ?_|exact wkc|intro hc|refine wk2 ?_ ?_|fail)
      done
     have t2:=takeN l n xs0 k [124] hl m4b
     cases h2:(rdr l []).isAt k [124] with
     | true=>
       have hlth2:=zam h2
       rw[zaf]at hlth2
       rw[h2,if_pos rfl]at t2
       rw[if_pos h2]at hr
       refine wk ?_
       repeat' (first|refine wkt ?_|refine zqn ?_|refine wd t2 ?_|exact wkc|intro hc|refine wk2 ?_ ?_|fail)
       refine zac.next (m,k+1,xs++[o]) ⟨?_,hlth2,?_,?_,hr⟩ ?_ ⟨rfl,rfl,rfl,rfl,trivial⟩ ?_
       ·show jt≤k+1;omega
       ·show l.length-(k+1)<m;omega
       ·exact zwdt
       ·show l.length-(k+1)<l.length-j3;omega
       ·show _=[rdT l n xs0 (k+1:Nat),tlT xs0,prZ,prZ,.cells [.t (.s nm),.sl 1 ((xs++[o]).map T.s) 5],.tail ((xs++[o]).map T.s).length]
        exact zwfj
     | false=>
     rw[h2,if_neg (by decide)]at t2
     rw[if_neg (by rw[h2];decide)]at hr
     simp only[PR.bind]at hr
     have hmo:(xs.map T.s++[T.s o])=(xs++[o]).map T.s:=by rw[qav];rfl
     have hx16:(xs++[o]).length≤16:=by rw[qal];simp only[qac,qaf];omega
     have hxo:(xs++[o]).length≤k:=by rw[qal];simp only[qac,qaf];omega
     refine wk ?_
     repeat' (first|refine wkt ?_|refine zqn ?_|refine wd t2 ?_|refine zac.exit ?_|exact wkc|intro hc|refine wk2 ?_ ?_|fail)
     rw[hmo]
     generalize xs++[o]=ys at*
     clear hmo t1 m3 t2
     obtain⟨n6,n6i⟩:=zqS l n xs0 k [[59]] hl m4b (by decide)
     refine TO.forget 4 1 rfl rfl rfl ?_
     cases qn6:(rdr l []).must [[59]] k with
     | er ke c=>
       rw[qn6]at n6 n6i hr
       have hc0:=n6i.2
       replace n6:=n6.er
       try simp only[PR.vl]at n6
       simp only[PR.bind]at hr
       repeat' (first|refine wkt ?_|refine zqn ?_|refine we n6 ?_ ?_|exact wkc|intro hc|refine wk2 ?_ ?_|fail)
       repeat' (first|refine zac.panic ?_|refine wk ?_|fail)
       exact rdPX hr.symm hc0 (leB)
     | ok u6 j6=>
     rw[qn6]at n6 n6i hr
     obtain⟨n6a,n6b⟩:=n6i
     replace n6:=n6.ok
     try simp only[PR.vl]at n6
     simp only[PR.bind]at hr
     repeat' (first|refine wkt ?_|refine zqn ?_|refine we n6 ?_ ?_|exact wkc|intro hc|refine wk2 ?_ ?_|fail)
     refine rgX 7 (g:=True) [(.ref 0 0,0,1),(.ref 0 0,0,0),(.ref 0 0,0,0),(.ref 0 3,0,0),(.sl 2 (xs0.map enT) 1,0,0),(.ag [.t (.s nm),.t (.sl 1 (ys.map T.s))],0,0),(.t (.sl 2 [.ag [.s nm,.sl 1 (ys.map T.s)]]),0,0),(.sl 2 (xs0.map enT++[.ag [.s nm,.sl 1 (ys.map T.s)]]) 1,1,0),(.ref 0 0,1,1),(.ref 0 3,1,1),(.t (.v undef),1,0)]
      [[rdT l n xs0 j6,tlT xs0,prZ,prZ,.cells [.t (.s nm),.t (.sl 1 (ys.map T.s))],.tail ((xs.map T.s).length+1)],[rdT l n xs0 j6,.tail ((xs0.map enT).length+1),prZ,prZ,.cells [.t (.s nm),.t (.sl 1 (ys.map T.s))],.tail ((xs.map T.s).length+1)],[.cells [.t (.sl 3 (l.map tokT)),.i n,.i j6,.sl 2 (xs0.map enT++[.ag [.s nm,.sl 1 (ys.map T.s)]]) 1],.tail ((xs0.map enT).length+1),prZ,prZ,.cells [.t (.s nm),.t (.sl 1 (ys.map T.s))],.tail ((xs.map T.s).length+1)]] ?_ (fun _=>?_)
     ·repeat' (first|exact trivial|exact⟨⟨rfl,rfl⟩,trivial⟩|refine qai (fun env=>?_) ?_|refine qai ?_ ?_|refine fun(env:Env)=>?_|refine wk ?_|fail)
      done
     ·have hmx:((xs0++[(⟨nm,ys⟩:En)]).map enT)=xs0.map enT++[.ag [.s nm,.sl 1 (ys.map T.s)]]:=by rw[qav];rfl
      repeat' (first|refine wkt ?_|fail)
      refine zac.cut 4 (m0,j6,xs0++[(⟨nm,ys⟩:En)]) ⟨?_,n6b,?_,?_,?_,hr⟩ ?_ ⟨rfl,rfl,rfl,trivial⟩ rfl rfl ?_ rfl rfl
      ·show i≤j6;omega
      ·show l.length-j6≤m0;omega
      ·show(xs0++[(⟨nm,ys⟩:En)]).length≤24;rw[qal];simp only[qac,qaf];omega
      ·show ∀u∈xs0++[(⟨nm,ys⟩:En)],u.tags.length≤16
       intro u hu
       rcases qbi.1 hu with hu|hu
       ·exact q5 u hu
       ·simp at hu;subst hu;exact hx16
      ·show l.length-j6<l.length-j1;omega
      ·show _=[rdT l n (xs0++[(⟨nm,ys⟩:En)]) j6,tlT (xs0++[(⟨nm,ys⟩:En)]),prZ,prZ]
       unfold rdT tlT
       rw[hmx,qal];rfl
   | false=>
   rw[h1]at t1
   have hid:(rdr l []).id j= .er j 5:=by unfold Rd.id;rw[h1];rfl
   have m4:=(idN l n xs0 j hl q2).1
   rw[hid]at m4 hr
   have hc0:(5:Int)≠0:=by decide
   replace m4:=m4.er
   simp only[PR.vl]at m4
   rw[h1,if_neg (by decide)]at hr
   simp only[PR.bind]at hr
   refine wk ?_
   repeat' (first|refine wkt ?_|refine zqn ?_|refine wd t1 ?_|exact wkc|intro hc|refine wk2 ?_ ?_|fail)
   refine rgX 3 (g:=False) [(.ref 4 1,0,1),(.sl 1 (xs.map T.s) 5,0,1),(.ref 0 0,0,1),(.t (T.s []),1,0),(.t (.sl 1 [T.s []]),1,1),(.sl 1 ((xs.map T.s)++[T.s []]) 5,1,0),(.ref 4 1,0,2),(.t (.v undef),1,0)] [[rdT l n xs0 j,tlT xs0,prZ,prZ,.cells [.t (.s nm),.sl 1 (xs.map T.s) 5],.tail ((xs.map T.s)).length],[rdT l n xs0 j,tlT xs0,prZ,prZ,.cells [.t (.s nm),.sl 1 (xs.map T.s) 5],.tail ((xs.map T.s)).length],[rdT l n xs0 j,tlT xs0,prZ,prZ,.cells [.t (.s nm),.sl 1 (xs.map T.s) 5],.tail (((xs.map T.s)).length+1)],[rdT l n xs0 j,tlT xs0,prZ,prZ,.cells [.t (.s nm),.sl 1 ((xs.map T.s)++[T.s []]) 5],.tail (((xs.map T.s)).length+1)]] ?_ (fun h=>h.elim)
   repeat' (first|refine wkt ?_|exact trivial|exact⟨⟨rfl,rfl⟩,trivial⟩|refine qai (fun env=>?_) ?_|refine qai ?_ ?_|refine we m4 ?_ ?_|refine wk ?_|exact wkc|intro hc|refine wk2 ?_ ?_|fail)
   repeat' (first|refine zac.panic ?_|refine wk ?_|fail)
   exact rdPX hr.symm hc0 (leB)
 | false=>
 rw[h0]at t0
 rw[zl3 h0]at hr
 simp only[PR.bind]at hr
 have hes:EsOk xs0:=⟨by omega,fun u hu=>by have:=q5 u hu;omega⟩
 refine wk ?_
 repeat' (first|refine wkt ?_|refine zqn ?_|refine wd t0 ?_|refine zac.exit ?_|exact wkc|intro hc|refine wk2 ?_ ?_|fail)
 refine TR.forget 0 3 rfl rfl rfl ?_
 refine TR.forget 3 0 rfl rfl rfl ?_
 refine TR.zbM 8 3 1 rfl rfl rfl ?_
 replace hr:((Rd.nodes (rdr l xs0) (rdr l []).K.length [] j0).bind fun l2 j=>.ok ⟨xs0,l2⟩ j:PR Prog)=r:=hr
 refine TR.zbd (ι:=Nat×Nat×List Nod) (fun x=>i≤x.2.1/\x.2.1≤l.length/\l.length-x.2.1≤x.1/\x.2.2.length≤x.2.1/\((Rd.nodes (rdr l xs0) x.1 x.2.2 x.2.1).bind fun l2 j=>.ok ⟨xs0,l2⟩ j:PR Prog)=r) (fun x=>l.length-x.2.1) (fun _=>[(0,.ref 0 0),(2,.ref 2 0),(3,.ref 3 0)]) (fun x=>[rdB l n xs0 x.2.1,tlT xs0,prZ,.cells [.t (.sl 2 (xs0.map enT)),.sl 8 (x.2.2.map nodT) 4],.tail (x.2.2.map nodT).length]) ((rdr l []).K.length,j0,[])
  ⟨by show i≤j0;omega,q2,by rw[zaf];show l.length-j0≤l.length;omega,by show 0≤j0;omega,hr⟩ ⟨rfl,rfl,rfl,trivial⟩ rfl ?_
 clear hr
 rintro⟨m,j,xs⟩ ⟨q1,q2,q3,q4,hr⟩
 replace q1:i≤j:=q1
 replace q2:j≤l.length:=q2
 replace q3:l.length-j≤m:=q3
 replace q4:xs.length≤j:=q4
 replace hr:((Rd.nodes (rdr l xs0) m xs j).bind fun l2 j=>.ok ⟨xs0,l2⟩ j:PR Prog)=r:=hr
 have hml:(xs.map nodT).length=xs.length:=qad _
 have t3:=zaO l n xs0 j [110,111,100,101] hl
 cases hw2:(rdr l xs0).isAt j [110,111,100,101] with
 | true=>
   have hlthw2:=zam hw2
   rw[zaf]at hlthw2
   rw[hw2]at t3
   cases m with
   | zero=>exfalso;omega
   | succ m=>
   rw[Rd.nodes,if_pos hw2]at hr
   refine wk ?_
   repeat' (first|refine wkt ?_|refine zqn ?_|refine wd t3 ?_|exact wkc|intro hc|refine wk2 ?_ ?_|fail)
   obtain⟨m3,m3i⟩:=limC l n xs0 j (xs.map nodT).length xs.length 96 hl q2 hml
   cases qm3:limR xs.length 96 j with
   | er ke c=>
     rw[qm3]at m3 m3i hr
     have hc0:=m3i.2
     replace m3:=m3.er
     try simp only[PR.vl]at m3
     simp only[PR.bind]at hr
     repeat' (first|refine wkt ?_|refine zqn ?_|refine we m3 ?_ ?_|exact wkc|intro hc|refine wk2 ?_ ?_|fail)
     repeat' (first|refine zac.panic ?_|refine wk ?_|fail)
     exact rdPX hr.symm hc0 (leB)
   | ok u3 j3=>
   rw[qm3]at m3 m3i hr
   obtain⟨m3a,m3b⟩:=m3i
   replace m3:=m3.ok
   try simp only[PR.vl]at m3
   simp only[PR.bind]at hr
   obtain⟨hlt4,rfl⟩:=zbh qm3
   repeat' (first|refine wkt ?_|refine zqn ?_|refine we m3 ?_ ?_|exact wkc|intro hc|refine wk2 ?_ ?_|fail)
   obtain⟨m4,m4i⟩:=zmX l n xs0 (j3+1) hk hes hlthw2
   cases qm4:(rdr l xs0).node (rdr l xs0).expr (j3+1) with
   | er ke c=>
     rw[qm4]at m4 m4i hr
     have hc0:=m4i.2
     replace m4:=m4.er
     try simp only[PR.vl]at m4
     simp only[PR.bind]at hr
     refine rgX 3 (g:=False) [(.ref 3 1,0,1),(.sl 8 (xs.map nodT) 4,0,1),(.ref 0 0,0,1),(.t (.ag [.s noN.name,.sl 3 (noN.ins.map zag),.sl 3 (noN.outs.map zag),.sl 3 (noN.locals.map zag),.sl 7 (noN.eqs.map equT),.sl 1 (noN.autos.map zaG),.sl 6 (noN.assume.map exT),.sl 6 (noN.ensure.map exT)]),1,0),(.t (.sl 8 [.ag [.s noN.name,.sl 3 (noN.ins.map zag),.sl 3 (noN.outs.map zag),.sl 3 (noN.locals.map zag),.sl 7 (noN.eqs.map equT),.sl 1 (noN.autos.map zaG),.sl 6 (noN.assume.map exT),.sl 6 (noN.ensure.map exT)]]),1,1),(.sl 8 ((xs.map nodT)++[.ag [.s noN.name,.sl 3 (noN.ins.map zag),.sl 3 (noN.outs.map zag),.sl 3 (noN.locals.map zag),.sl 7 (noN.eqs.map equT),.sl 1 (noN.autos.map zaG),.sl 6 (noN.assume.map exT),.sl 6 (noN.ensure.map exT)]]) 4,1,0),(.ref 3 1,0,2),(.t (.v undef),1,0)] [[rdB l n xs0 (j3+1),tlT xs0,prZ,.cells [.t (.sl 2 (xs0.map enT)),.sl 8 (xs.map nodT) 4],.tail ((xs.map nodT)).length],[rdB l n xs0 (j3+1),tlT xs0,prZ,.cells [.t (.sl 2 (xs0.map enT)),.sl 8 (xs.map nodT) 4],.tail ((xs.map nodT)).length],[rdB l n xs0 (j3+1),tlT xs0,prZ,.cells [.t (.sl 2 (xs0.map enT)),.sl 8 (xs.map nodT) 4],.tail (((xs.map nodT)).length+1)],[rdB l n xs0 (j3+1),tlT xs0,prZ,.cells [.t (.sl 2 (xs0.map enT)),.sl 8 ((xs.map nodT)++[.ag [.s noN.name,.sl 3 (noN.ins.map zag),.sl 3 (noN.outs.map zag),.sl 3 (noN.locals.map zag),.sl 7 (noN.eqs.map equT),.sl 1 (noN.autos.map zaG),.sl 6 (noN.assume.map exT),.sl 6 (noN.ensure.map exT)]]) 4],.tail (((xs.map nodT)).length+1)]] ?_ (fun h=>h.elim)
     repeat' (first|refine wkt ?_|exact trivial|exact⟨⟨rfl,rfl⟩,trivial⟩|refine qai (fun env=>?_) ?_|refine qai ?_ ?_|refine we m4 ?_ ?_|refine wk ?_|exact wkc|intro hc|refine wk2 ?_ ?_|fail)
     repeat' (first|refine zac.panic ?_|refine wk ?_|fail)
     exact rdPX hr.symm hc0 (leB)
   | ok o k=>
   rw[qm4]at m4 m4i hr
   obtain⟨m4a,m4b⟩:=m4i
   replace m4:=m4.ok
   try simp only[PR.vl]at m4
   simp only[PR.bind]at hr
   rw[zjK o]at m4
   refine rgX 3 (g:=True) [(.ref 3 1,0,1),(.sl 8 (xs.map nodT) 4,0,1),(.ref 0 0,0,1),(.t (.ag [.s o.name,.sl 3 (o.ins.map zag),.sl 3 (o.outs.map zag),.sl 3 (o.locals.map zag),.sl 7 (o.eqs.map equT),.sl 1 (o.autos.map zaG),.sl 6 (o.assume.map exT),.sl 6 (o.ensure.map exT)]),1,0),(.t (.sl 8 [.ag [.s o.name,.sl 3 (o.ins.map zag),.sl 3 (o.outs.map zag),.sl 3 (o.locals.map zag),.sl 7 (o.eqs.map equT),.sl 1 (o.autos.map zaG),.sl 6 (o.assume.map exT),.sl 6 (o.ensure.map exT)]]),1,1),(.sl 8 ((xs.map nodT)++[.ag [.s o.name,.sl 3 (o.ins.map zag),.sl 3 (o.outs.map zag),.sl 3 (o.locals.map zag),.sl 7 (o.eqs.map equT),.sl 1 (o.autos.map zaG),.sl 6 (o.assume.map exT),.sl 6 (o.ensure.map exT)]]) 4,1,0),(.ref 3 1,0,2),(.t (.v undef),1,0)] [[rdB l n xs0 (j3+1),tlT xs0,prZ,.cells [.t (.sl 2 (xs0.map enT)),.sl 8 (xs.map nodT) 4],.tail ((xs.map nodT)).length],[rdB l n xs0 k,tlT xs0,prZ,.cells [.t (.sl 2 (xs0.map enT)),.sl 8 (xs.map nodT) 4],.tail ((xs.map nodT)).length],[rdB l n xs0 k,tlT xs0,prZ,.cells [.t (.sl 2 (xs0.map enT)),.sl 8 (xs.map nodT) 4],.tail (((xs.map nodT)).length+1)],[rdB l n xs0 k,tlT xs0,prZ,.cells [.t (.sl 2 (xs0.map enT)),.sl 8 ((xs.map nodT)++[.ag [.s o.name,.sl 3 (o.ins.map zag),.sl 3 (o.outs.map zag),.sl 3 (o.locals.map zag),.sl 7 (o.eqs.map equT),.sl 1 (o.autos.map zaG),.sl 6 (o.assume.map exT),.sl 6 (o.ensure.map exT)]]) 4],.tail (((xs.map nodT)).length+1)]] ?_ (fun _=>?_)
   ·repeat' (first|refine wkt ?_|exact trivial|exact⟨⟨rfl,rfl⟩,trivial⟩|refine qai (fun env=>?_) ?_|refine qai ?_ ?_|refine we m4 ?_ ?_|refine wk ?_|exact wkc|intro hc|refine wk2 ?_ ?_|fail)
    done
   ·repeat' (first|refine wu ?_|exact wkc|intro hc|refine wk2 ?_ ?_|fail)
    refine zac.next (m,k,xs++[o]) ⟨?_,m4b,?_,?_,hr⟩ ?_ ⟨rfl,rfl,rfl,trivial⟩ ?_
    ·show i≤k;omega
    ·show l.length-k≤m;omega
    ·show(xs++[o]).length≤k;rw[qal];simp only[qac,qaf];omega
    ·show l.length-k<l.length-j3;omega
    ·show _=[rdB l n xs0 k,tlT xs0,prZ,.cells [.t (.sl 2 (xs0.map enT)),.sl 8 ((xs++[o]).map nodT) 4],.tail ((xs++[o]).map nodT).length]
     rw[qav,qah,qas,qal,zjK o];rfl
 | false=>
 rw[hw2]at t3
 rw[zlJ hw2]at hr
 simp only[PR.bind]at hr
 refine wk ?_
 repeat' (first|refine wkt ?_|refine zqn ?_|refine wd t3 ?_|refine zac.exit ?_|exact wkc|intro hc|refine wk2 ?_ ?_|fail)
 refine zdL.ret ?_
 subst hr
 refine RetK.errV rfl rfl ?_ rfl rfl rfl rfl rfl
 show Le _ (.t (zeN ⟨xs0,xs⟩))
 rw[zhN]
 exact zqa
end Go.Proofs.YtpfnfpaahefdaaaGreat
