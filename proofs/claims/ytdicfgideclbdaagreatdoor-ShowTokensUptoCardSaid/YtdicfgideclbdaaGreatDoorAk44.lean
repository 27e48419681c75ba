import Derived.Test.YtdicfgideclbdaaGreatDoorAk27
import Derived.Test.YtdicfgideclbdaaGreatDoorAk43
set_option maxHeartbeats 64000000
set_option linter.all false
namespace Go.Proofs.YtdicfgideclbdaaGreatDoor
open Go Go.TL
attribute [local irreducible] TR TO Then zaj RetK Sound zac Kf GG zaQ
variable {j id':Nat}{P:Program}{c:Code}{E env env0 envF:Env}{H H0:Heap}{K:TK}{l:List Oper}{cargs:List SV}{ι:Type}{q:Bool}{all:Array Oper}{es:List En}{f:FuncId}
theorem zjm{α β:Type}{r:PR α}{f:α->Nat->PR β}{x:β}(h:r.bind f= .ok x j):∃v k,r= .ok v k/\f v k= .ok x j:=by
 exact zwfo
theorem zfK{α β γ:Type}{r:PR α}{f:α->Nat->PR β}{g:β->Nat->PR γ}:(r.bind f).bind g=r.bind fun x j=>(f x j).bind g:=by
 cases r <;> rfl
abbrev RdG (l:List Tok)(n:Int)(es:List En)(f:FuncId)(args:List SV)(i j:Nat)(v:SV):Prop:=
 Sound Tryz.prog f (.ref 0 0::args) [rdB l n es i] (fun r H'=>r= .ret v/\H'=[rdB l n es j])
def RdK(l:List Tok)(n:Int)(es:List En)(f:FuncId)(args:List SV)(i lo:Nat){α:Type}(r:PR α)(V:α->SV):Prop:=
 ∀x j,r= .ok x j->RdG l n es f args i j (V x)/\lo≤j/\j≤l.length
section
variable {l:List Tok}{n:Int}{args:List SV}{i lo:Nat}{α β:Type}{r:PR α}{V:α->SV}
theorem RdK.of(hin:i≤(rdr l es).K.length->InR (rdr l es).K.length lo r)(hi:i≤l.length)(h:∀x j,r= .ok x j->lo≤j->j≤l.length->RdG l n es f args i j (V x)):RdK l n es f args i lo r V:=fun x j e=>by
 exact zwfj
theorem RdK.get{F:α->Nat->PR β}{z:β}{m:Nat}(h:RdK l n es f args i lo r V)(hr:r.bind F= .ok z m):∃y k,r= .ok y k/\RdG l n es f args i k (V y)/\lo≤k/\k≤l.length/\F y k= .ok z m:=by
 exact zwdr
end
section
variable {l:List Tok}{n:Int}{rs:List ResultVar}{env:Env}{H:Heap}{v:SV}{vs:List SV}{j:Nat}
theorem rdO(hr:zbO tab env H rs=some vs)(hl:Le (pack vs) v)(hu:v.under 1=true:=by exact rfl)(hk:Nat.ble 1 H.length=true:=by exact rfl)(ht:H.take 1=[rdB l n es j]:=by exact rfl):RetK tab rs 1 (fun r H'=>r= .ret v/\H'=[rdB l n es j]) .ret env H:=
 RetK.keep 1 hr hl rfl hk hu ht rfl ⟨rfl,rfl⟩
theorem rdON(hr:zbO tab env H rs=some vs)(hl:Le (pack vs) v)(hu:v.under 1=true:=by exact rfl)(hk:Nat.ble 1 H.length=true:=by exact rfl)(ht:H.take 1=[rdB l n es j]:=by exact rfl):RetK tab rs 1 (fun r H'=>r= .ret v/\H'=[rdB l n es j]) .normal env H:=
 RetK.zih 1 hr hl rfl hk hu ht rfl ⟨rfl,rfl⟩
end
theorem leX{a b:SV}(h:Le a b:=by
  repeat' (first|exact trivial|exact Le.refl _|refine qav ?_ ?_|exact Le.any _|exact Le.nil _|exact Le.own _ _ _|refine Le.tree rfl ?_|exact TLe.refl _|exact TLe.nil _|refine TLe.ags ?_|fail)):Le a b:=h
abbrev vS (s:Str):SV:=.s s
abbrev vU (_:Unit):SV:=.tup []
theorem zco (l:List Tok) (n:Int) (es:List En) (i:Nat) (ss:List Str) (hl:l.length≤1000000) (hi:i≤l.length) (hs:ss.length≤1000):RdK l n es 63 [.t (.sl 1 (ss.map T.s))] i (i+ss.length) ((rdr l es).must ss i) vU:=by
 refine .of (zaO ss) hi fun x j hr _ _=>?_
 have hml:(ss.map T.s).length=ss.length:=qac _;replace hr:(rdr l es).must (ss.drop 0) (i+0)= .ok x j:=hr;refine so Tryz.func63 ?_;repeat' (first|refine wu ?_|exact wkc|refine wk2 ?_ ?_|intro hc)
 refine TR.zaz ss.length (fun k=>(rdr l es).must (ss.drop k) (i+k)= .ok x j/\i+k≤l.length) (fun k=>[(0,.ref 0 0),(6,.t (.sl 1 (ss.map T.s))),(7,.i (ss.map T.s).length),(8,.i k)]) (fun k=>[rdB l n es (i+k:Nat)]) ⟨hr,hi⟩ (fun k hlt ha=>?_) (fun ha=>?_)
 ·obtain⟨ha,hk⟩:=ha;have hx:=zkb hlt;rw[qaN hlt,Rd.must]at ha;have ht:=zay l n es (i+k) ss[k] hl hk;have hlt2:=@zal (rdr l es) (i+k) ss[k];exact zwbg
 ·obtain⟨ha,hk⟩:=ha;rw[qa2 (qag _)]at ha;cases ha;refine ya ?_;exact rdON (vs:=[]) rfl (Le.refl _)
theorem idK(l:List Tok)(n:Int)(es:List En)(i:Nat)(hl:l.length≤1000000)(hi:i≤l.length):RdK l n es 62 [] i (i+1) ((rdr l es).id i) vS:=by
 refine .of zhk hi fun x j hr _ _=>?_
 have hml:(l.map tokT).length=l.length:=qac _;have hk:=zbT l n es i 1 hl;unfold Rd.id at hr;split at hr
 ·rename_i hb;have hlt:=zdJ hb;rw[zau]at hlt;rw[hb]at hk
  have htx:(rdr l es).txt i=l[i].2.1:=by
   exact zwds
  rw[htx]at hr;cases hr;have hx:=zdR hlt;have hx':(l.map tokT)[((i:Int)+1-1).toNat]?=some (.ag [T.i l[i].1,.s l[i].2.1,T.i l[i].2.2]):=by rw[show((i:Int)+1-1).toNat=i by omega];exact hx
  clear htx;generalize l[i]=t at*;refine so Tryz.func62 ?_;refine yc hk ?_;exact rdO rfl (Le.refl _)
 ·cases hr
theorem limK(l:List Tok)(n:Int)(es:List En)(i a b most:Nat)(hl:l.length≤1000000)(hi:i≤l.length)(hb:a=b):RdK l n es 61 [.i a,.i most] i i (limR b most i) vU:=by
 subst hb;refine .of zdK hi fun x j hr _ _=>?_
 unfold limR at hr;split at hr
 ·cases hr
 ·cases hr;refine so Tryz.func61 ?_;refine ya ?_;exact rdON (vs:=[]) rfl (Le.refl _)
abbrev vT (tv:Nat×Nat):SV:=.tup [.i (tv.1:Nat),.i (tv.2:Nat)]
abbrev vO (o:OnC):SV:=.t (onT o)
theorem zw1 (l:List Tok) (n:Int) (es:List En) (i:Nat) (hl:l.length≤1000000) (hi:i≤l.length) (he:EsOk es):RdK l n es 193 [] i (i+1) ((rdr l es).aTag i) vT:=by
 refine .of zm3 hi fun x j hr _ _=>?_
 have ht1:=zay l n es i [116,114,117,101] hl hi;have ht2:=zay l n es i [102,97,108,115,101] hl hi;unfold Rd.aTag at hr;split at hr
 ·rename_i h1;rw[h1,oG rfl]at ht1;cases hr;refine so Tryz.func193 ?_;refine yc ht1 ?_;exact rdO rfl (Le.refl _)
 rename_i h1;rw[qaR.2 h1,oH oB]at ht1;split at hr
 ·rename_i h2;rw[h2,oG rfl]at ht2;cases hr;refine so Tryz.func193 ?_;refine yf ht1 ht2 ?_;exact rdO rfl (Le.refl _)
 rename_i h2;rw[qaR.2 h2,oH oB]at ht2;obtain⟨s,k,q,m,_,hk,hr⟩:=(idK l n es i hl hi).get hr;have htg:=zgN l n es k s he;cases hq:(rdr l es).tag s with
 | none=>rw[hq]at hr;cases hr
 | some tv=>
   rw[hq]at hr htg;cases hr;unfold tagR at htg;refine so Tryz.func193 ?_;refine yi ht1 ht2 m htg ?_;exact rdO rfl (Le.refl _)
theorem zzY (l:List Tok) (n:Int) (es:List En) (i:Nat) (hl:l.length≤1000000) (hi:i≤l.length) (he:EsOk es):RdK l n es 176 [] i (i+1) ((rdr l es).sampling i) vO:=by
 refine .of zfE hi fun x j hr _ _=>?_
 unfold Rd.sampling at hr;obtain⟨tv,j1,q1,m1,_,h1,hr⟩:=(zw1 l n es i hl hi he).get hr;obtain⟨_,j2,_,m2,_,h2,hr⟩:=(zco l n es j1 [[40]] hl h1 oB).get hr;obtain⟨s,j3,_,m3,_,h3,hr⟩:=(idK l n es j2 hl h2).get hr;obtain⟨_,j4,_,m4,_,h4,hr⟩:=(zco l n es j3 [[41]] hl h3 oB).get hr;cases hr;obtain⟨⟨v1,v2⟩,_⟩:=zj9 he q1;have t1:(toI tv.1).1=(tv.1:Int):=zdN oA;have t2:(toI tv.2).1=(tv.2:Int):=zdN oA;refine so Tryz.func176 ?_;refine yi m1 m2 m3 m4 ?_;refine rdO rfl ?_;show Le _ (.t (.ag [.s s,.v (.int .i64 (toI tv.1).1),.v (.int .i64 (toI tv.2).1)]));rw[t1,t2];exact leX
abbrev xT (e:Ex):T:=.ag (exC e)
abbrev vX (e:Ex):SV:=.t (xT e)
abbrev ExK (l:List Tok)(n:Int)(es:List En)(f:FuncId)(args:List SV)(i lo:Nat)(r:PR Ex):Prop:=RdK l n es f args i lo r vX
abbrev exD (k o t v:Int)(s:Str)(l:List T):List T:=[T.i k,T.i o,T.i t,T.i v,.s s,.sl 6 l]
abbrev ceB (l:List T):Blk:=.cells (l.map .t)
theorem zbJ(k o t v:Int)(s:Str)(l:List Ex)(hk:(toI k).1=k:=by exact rfl)(ho:(toI o).1=o:=by exact rfl)(ht:(toI t).1=t:=by exact rfl)(hv:(toI v).1=v:=by exact rfl):exC (mkE k o t v s l)=exD k o t v s (l.map exT):=by
 unfold mkE exC exD;simp only[Ex.kind,Ex.op,Ex.t,Ex.v,Ex.name,Ex.args,T.n,hk,ho,ht,hv]
theorem zxI (l:List Tok) (n:Int) (es:List En) (i:Nat) (hl:l.length≤1000000) (hi:i≤l.length) {r2 r3:PR Ex} (h2:i+1≤l.length->ExK l n es 149 [.i 2] (i+1) (i+2) r2) (h3:ExK l n es 149 [.i 3] i (i+1) r3):
  ExK l n es 149 [.i 2] i (i+1) (if(rdr l es).isAt i [110,111,116]=true then r2.bind fun a j=>.ok (mkE 3 1 0 0 [] [a]) j else r3):=by
 intro x j hr;have ht:=zay l n es i [110,111,116] hl hi;split at hr
 ·rename_i hb;rw[hb,oG rfl]at ht;have hlt:=zal hb;rw[zau]at hlt;obtain⟨a,j1,_,m1,b1,b2,hr⟩:=(h2 hlt).get hr;cases hr;refine⟨?_,oA,b2⟩;unfold RdG vX xT;rw[zbJ 3 1 0 0,qaf,qaD,zan a];refine so Tryz.func149 ?_;refine yf ht m1 ?_;exact rdO rfl leX
 ·rename_i hb;rw[oH hb,qaR.2 hb]at ht;obtain⟨m1,b1,b2⟩:=h3 _ _ hr;refine⟨?_,b1,b2⟩;refine so Tryz.func149 ?_;refine yf ht m1 ?_;exact rdO rfl leX
theorem zxK (l:List Tok) (n:Int) (es:List En) (i k:Nat) (hl:l.length≤1000000) (hi:i≤l.length) (hS:∀t∈l,t.2.1.length≤1000000000) (hk2:k≠2) (hk6:k≠6) (hk7:k≤7) {f:Nat->PR Ex}
  (hf:∀j,j≤l.length->ExK l n es 149 [.i ((k:Int)+1)] j (j+1) (f j)) (hin:∀j,j≤(rdr l es).K.length->InR (rdr l es).K.length (j+1) (f j)):
  ExK l n es 149 [.i k] i (i+1) ((f i).bind fun a j=>(rdr l es).ops f k (rdr l es).K.length a j):=by
 refine .of (fun h=>(hin i h).bind fun a j h1 h2=>(zsQ hin _ _ _ h2).le h1) hi fun x jx hr _ _=>?_
 obtain⟨a,j,q,m1,b1,b2,hr⟩:=(hf i hi).get hr;refine so Tryz.func149 ?_;repeat' (first|refine wkb ?_|refine wk ?_|exact wkc|refine wk2 ?_ ?_|refine wd m1 ?_|intro hc)
 refine TR.zbk (ι:=Nat×Nat×Ex) (fun y=>y.2.1≤l.length/\l.length-y.2.1≤y.1/\(rdr l es).ops f k y.1 y.2.2 y.2.1= .ok x jx) (fun y=>l.length-y.2.1) (fun _=>[(0,.ref 0 0),(1,.i k),(5,.ref 2 0),(4,.ref 1 0)]) (fun y=>[rdB l n es y.2.1,exZ,ceB (exC y.2.2)]) ((rdr l es).K.length,j,a)
  ⟨b2,by rw[zau];show l.length-j≤l.length;omega,hr⟩ ⟨rfl,rfl,rfl,rfl,trivial⟩ rfl ?_
 clear m1 b1 b2 hr q;clear j a;rintro⟨m,j,a⟩ ⟨q2,q3,hr⟩;replace q2:j≤l.length:=q2;replace q3:l.length-j≤m:=q3;replace hr:(rdr l es).ops f k m a j= .ok x jx:=hr;have ho:=zqO l n es j k hl hS;cases hop:(rdr l es).oper k j with
 | none=>
   rw[hop]at ho;rw[zuS hop]at hr;cases hr;refine yc ho ?_;exact rdO rfl leX
 | some op=>
   have hlt:=zuQ hop;have hov:=zuR hop;rw[hop]at ho;simp only[qbm,Option.isSome_some]at ho;cases m with
   | zero=>exfalso;omega
   | succ m=>
   rw[Rd.ops,hop]at hr;obtain⟨b,j2,_,m2,b1,b2,hr⟩:=(hf (j+1) hlt).get hr
   have hex:exC (mkE 3 op 0 0 [] [a,b])=exD 3 op 0 0 [] [xT a,xT b]:=by
    rw[zbJ 3 op 0 0 _ _ rfl (zdN oA),qaf,qaf,qaD,zan a,zan b]
   repeat' (first|refine wkt ?_|refine zqi ?_|refine wd ho ?_|exact wkc|refine wk2 ?_ ?_|intro hc)
   refine rgX 5 (g:=True) [(.i op,0,1),(.ag ((exC a).map .t),0,1),(.ref 0 0,0,1),(.i k,0,1),(.i ((k:Int)+1),0,1),(vX b,1,0),(.t (.sl 6 [xT a,xT b]),1,1),(.t (.ag (exD 3 op 0 0 [] [xT a,xT b])),1,1),(.t (.v undef),1,0)] [[rdB l n es (j+1),exZ,ceB (exC a)],[rdB l n es j2,exZ,ceB (exC a)],[rdB l n es j2,exZ,ceB (exD 3 op 0 0 [] [xT a,xT b])]] ?_ (fun _=>?_)
   ·repeat' (first|refine wkt ?_|exact trivial|exact⟨⟨rfl,rfl⟩,trivial⟩|refine zqi ?_|refine qav (fun env=>?_) ?_|refine qav ?_ ?_|refine wd m2 ?_|refine wk ?_|exact wkc|refine wk2 ?_ ?_|intro hc)
    done
   ·by_cases h3:k=3
    ·rw[oG h3]at hr;cases hr;refine ya ?_;refine rdO rfl ?_;unfold vX xT;rw[hex];exact leX
    ·rw[oH h3]at hr;refine ya ?_;refine zac.next (m,j2,mkE 3 op 0 0 [] [a,b]) ⟨b2,?_,hr⟩ ?_ ⟨rfl,rfl,rfl,rfl,trivial⟩ ?_
     ·show l.length-j2≤m;omega
     ·show l.length-j2<l.length-j;omega
     ·show _=[rdB l n es j2,exZ,ceB (exC (mkE 3 op 0 0 [] [a,b]))];rw[hex]
theorem zAH{G:Prop}{n:Nat}(a:TR P n c E H K->G)(k:TR P n c E H K):G:=a k
theorem zsl{n:Nat}(key:TR P n c E H K)(hs:env.sub E:=by repeat' (first|exact trivial|refine qav rfl ?_|fail)):TR P n c env H K:=TR.sub E hs key
theorem zxJ(l:List Tok)(n:Int)(es:List En)(i:Nat){r:PR Ex}(h:ExK l n es 177 [] i (i+1) r):ExK l n es 149 [.i 6] i (i+1) r:=by
 intro x j hr;obtain⟨m1,b⟩:=h _ _ hr;refine⟨?_,b⟩;refine so Tryz.func149 ?_;refine yc m1 ?_;exact rdO rfl leX
theorem zAn (l:List Tok) (n:Int) (es:List En) (i:Nat) (hl:l.length≤1000000) (hi:i≤l.length) (he:EsOk es) {ru rp:PR Ex}
  (hu:i+1≤l.length->ExK l n es 177 [] (i+1) (i+2) ru) (hp:ExK l n es 195 [] i (i+1) rp):
  ExK l n es 177 [] i (i+1) (if(rdr l es).neg i=false/\(rdr l es).isAt i [45]=true then ru.bind fun a j=>.ok (mkE 3 2 0 0 [] [a]) j
   else if(rdr l es).neg i=false/\(rdr l es).isAt i [112,114,101]=true then ru.bind fun a j=>.ok (mkE 5 0 0 0 [] [a]) j
   else rp.bind fun e j=>(rdr l es).whens (rdr l es).K.length e j):=by
 intro x jx hr;have hn:=zl9 l n es i hl hi;have h1:=zay l n es i [45] hl hi;have h2:=zay l n es i [112,114,101] hl hi;have hlt1:=@zal (rdr l es) i [45];have hlt2:=@zal (rdr l es) i [112,114,101];rw[zau]at hlt1 hlt2;generalize (rdr l es).neg i=bn at*;generalize (rdr l es).isAt i [45]=b1 at*;generalize (rdr l es).isAt i [112,114,101]=b2 at*;by_cases c1:bn=false/\b1=true
 ·obtain⟨rfl,rfl⟩:=c1;rw[oG ⟨rfl,rfl⟩]at hr;rw[oG rfl]at h1;obtain⟨a,j,_,m1,q1,q2,hr⟩:=(hu (hlt1 rfl)).get hr;cases hr;refine⟨?_,oA,q2⟩;unfold RdG vX xT;rw[zbJ 3 2 0 0,qaf,qaD,zan a];refine so Tryz.func177 ?_;repeat' (first|refine wu ?_|exact wkc|refine wk2 ?_ ?_|refine wd hn ?_|refine wd h1 ?_|refine wd m1 ?_|intro hc)
  exact rdO rfl leX
 rw[oH c1]at hr;by_cases c2:bn=false/\b2=true
 ·obtain⟨rfl,rfl⟩:=c2;rw[oG ⟨rfl,rfl⟩]at hr;cases b1 with
  | true=>exact oI ⟨rfl,rfl⟩ c1
  | false=>
  rw[oH oB]at h1;rw[oG rfl]at h2;obtain⟨a,j,_,m1,q1,q2,hr⟩:=(hu (hlt2 rfl)).get hr;cases hr;refine⟨?_,oA,q2⟩;unfold RdG vX xT;rw[zbJ 5 0 0 0,qaf,qaD,zan a];refine so Tryz.func177 ?_;refine yi hn h1 h2 m1 ?_;exact rdO rfl leX
 rw[oH c2]at hr
 have hcb:bn=true\/(bn=false/\b1=false/\b2=false):=by
  clear hn h1 h2 hlt1 hlt2 hu hr;cases bn <;> cases b1 <;> cases b2 <;> simp_all
 obtain⟨e,j,q,m1,q1,q2,hr⟩:=hp.get hr;have hb:=zld (R:=rdr l es) (rdr l es).K.length e (i:=j) (by rw[zau];exact q2);rw[hr,zau]at hb;refine⟨?_,qax q1 hb.1,hb.2⟩;clear hb hlt1 hlt2 hu q q1;refine so Tryz.func177 ?_;apply zAH (E:=[(0,.ref 0 0),(3,.ref 2 0),(2,.ref 1 0)]) (H:=[rdB l n es j,exZ,ceB (exC e)])
 ·intro key;rcases hcb with rfl|⟨rfl,rfl,rfl⟩
  ·repeat' (first|refine wkb ?_|refine wk ?_|exact wkc|refine wk2 ?_ ?_|refine wd hn ?_|refine wd m1 ?_|intro hc)
   exact zsl key
  ·rw[oH oB]at h1 h2;repeat' (first|refine wkb ?_|refine wk ?_|exact wkc|refine wk2 ?_ ?_|refine wd hn ?_|refine wd h1 ?_|refine wd h2 ?_|refine wd m1 ?_|intro hc)
   exact zsl key
 ·clear h1 h2 hn m1
  refine TR.zbk (ι:=Nat×Nat×Ex) (fun y=>y.2.1≤l.length/\l.length-y.2.1≤y.1/\(rdr l es).whens y.1 y.2.2 y.2.1= .ok x jx) (fun y=>l.length-y.2.1) (fun _=>[(0,.ref 0 0),(3,.ref 2 0),(2,.ref 1 0)]) (fun y=>[rdB l n es y.2.1,exZ,ceB (exC y.2.2)]) ((rdr l es).K.length,j,e)
   ⟨q2,by rw[zau];show l.length-j≤l.length;omega,hr⟩ ⟨rfl,rfl,rfl,trivial⟩ rfl ?_
  clear q2 hr;clear j e;rintro⟨m,j,e⟩ ⟨q2,q3,hr⟩;replace q2:j≤l.length:=q2;replace q3:l.length-j≤m:=q3;replace hr:(rdr l es).whens m e j= .ok x jx:=hr;have ht:=zay l n es j [119,104,101,110] hl q2;cases hw:(rdr l es).isAt j [119,104,101,110] with
  | false=>
    rw[hw,oH oB]at ht;rw[zq6 hw]at hr;cases hr;refine yc ht ?_;exact rdO rfl leX
  | true=>
    have hlt:=zal hw;rw[zau]at hlt;rw[hw,oG rfl]at ht;cases m with
    | zero=>exfalso;omega
    | succ m=>
    rw[Rd.whens,oG hw]at hr;obtain⟨o,j2,_,m1,q4,q5,hr⟩:=(zzY l n es (j+1) hl hlt he).get hr;unfold vO onT at m1;refine yf ht m1 ?_;refine zac.cut 3 (m,j2,.mk (toI 8) (toI 0) o.t o.tag o.name [e]) ⟨q5,?_,hr⟩ ?_ ⟨rfl,rfl,rfl,trivial⟩ rfl rfl ?_ rfl rfl
    ·show l.length-j2≤m;omega
    ·show l.length-j2<l.length-j;omega
    ·show _=[rdB l n es j2,exZ,ceB (exC (.mk (toI 8) (toI 0) o.t o.tag o.name [e]))];unfold exC;simp only[Ex.kind,Ex.op,Ex.t,Ex.v,Ex.name,Ex.args,qaf,qaD,zan e];rfl
theorem zAF (l:List Tok) (n:Int) (es:List En) (i:Nat) (hl:l.length≤1000000) (hi:i≤l.length) {r0:PR Ex} {fe:Nat->PR Ex}
  (h0:ExK l n es 149 [.i 0] i (i+1) r0) (he:∀j,j≤l.length->ExK l n es 115 [] j (j+1) (fe j)):
  ExK l n es 115 [] i (i+1) (r0.bind fun a j=>
   if(rdr l es).isAt j [45,62]=true then(fe (j+1)).bind fun b k=>.ok (mkE 6 0 0 0 [] [a,b]) k
   else if(rdr l es).isAt j [102,98,121]=true then(fe (j+1)).bind fun b k=>.ok (mkE 7 0 0 0 [] [a,b]) k
   else .ok a j):=by
 intro x jx hr;obtain⟨a,j,_,m1,q1,q2,hr⟩:=h0.get hr;have t1:=zay l n es j [45,62] hl q2;have t2:=zay l n es j [102,98,121] hl q2;have hlt1:=@zal (rdr l es) j [45,62];have hlt2:=@zal (rdr l es) j [102,98,121];rw[zau]at hlt1 hlt2;split at hr
 ·rename_i h1;rw[h1,oG rfl]at t1;obtain⟨b,j2,_,m2,q3,q4,hr⟩:=(he (j+1) (hlt1 h1)).get hr;cases hr;refine⟨?_,oA,q4⟩;unfold RdG vX xT;rw[zbJ 6 0 0 0,qaf,qaf,qaD,zan a,zan b];refine so Tryz.func115 ?_;repeat' (first|refine wkt ?_|(apply TO.alloc zaf;(iterate 3 exact rfl))|refine wd m1 ?_|refine wd t1 ?_|exact wkc|refine wk2 ?_ ?_|intro hc)
  refine rgX 2 (g:=True) [(vX a,0,1),(.ref 0 0,0,1),(vX b,1,0),(.t (.sl 6 [xT a,xT b]),1,1),(.t (.ag (exD 6 0 0 0 [] [xT a,xT b])),1,1),(.t (.v undef),1,0)] [[rdB l n es (j+1),exZ],[rdB l n es jx,exZ],[rdB l n es jx,ceB (exD 6 0 0 0 [] [xT a,xT b])]] ?_ (fun _=>?_)
  ·repeat' (first|refine wkt ?_|exact trivial|exact⟨⟨rfl,rfl⟩,trivial⟩|refine qav (fun env=>?_) ?_|refine qav ?_ ?_|refine wd m2 ?_|refine wk ?_|exact wkc|refine wk2 ?_ ?_|intro hc)
   done
  ·refine ya ?_;exact rdO rfl leX
 rename_i h1;rw[oH h1,qaR.2 h1]at t1;split at hr
 ·rename_i h2;rw[h2,oG rfl]at t2;obtain⟨b,j2,_,m2,q3,q4,hr⟩:=(he (j+1) (hlt2 h2)).get hr;cases hr;refine⟨?_,oA,q4⟩;unfold RdG vX xT;rw[zbJ 7 0 0 0,qaf,qaf,qaD,zan a,zan b];refine so Tryz.func115 ?_;repeat' (first|refine wkt ?_|(apply TO.alloc zaf;(iterate 3 exact rfl))|refine wd m1 ?_|refine wd t1 ?_|refine wd t2 ?_|exact wkc|refine wk2 ?_ ?_|intro hc)
  refine rgX 2 (g:=True) [(vX a,0,1),(.ref 0 0,0,1),(vX b,1,0),(.t (.sl 6 [xT a,xT b]),1,1),(.t (.ag (exD 7 0 0 0 [] [xT a,xT b])),1,1),(.t (.v undef),1,0)] [[rdB l n es (j+1),exZ],[rdB l n es jx,exZ],[rdB l n es jx,ceB (exD 7 0 0 0 [] [xT a,xT b])]] ?_ (fun _=>?_)
  ·repeat' (first|refine wkt ?_|exact trivial|exact⟨⟨rfl,rfl⟩,trivial⟩|refine qav (fun env=>?_) ?_|refine qav ?_ ?_|refine wd m2 ?_|refine wk ?_|exact wkc|refine wk2 ?_ ?_|intro hc)
   done
  ·refine ya ?_;exact rdO rfl leX
 rename_i h2;rw[oH h2,qaR.2 h2]at t2;cases hr;refine⟨?_,q1,q2⟩;refine so Tryz.func115 ?_;repeat' (first|refine wu ?_|exact wkc|refine wk2 ?_ ?_|refine wd m1 ?_|refine wd t1 ?_|refine wd t2 ?_|(apply TO.alloc zaf;(iterate 3 exact rfl))|intro hc)
 exact rdO rfl leX
theorem wz{G Q:Prop}(k:Q)(h:Hold Q->G:=by
  intro k
  first
  | exact wkt k.p
  | (apply TO.alloc zaf;(iterate 3 exact rfl);exact k.p)
  | (apply TO.add;(iterate 3 exact rfl);omega;omega;exact k.p)
  | (apply TO.zoa;(iterate 3 exact rfl);omega;omega;exact k.p)
  | (apply TO.zAZ;exact rfl;exact rfl;omega;omega;exact k.p)
  | (apply TO.want;exact rfl;exact k.p)):G:=h ⟨k⟩
theorem yg{G Q A:Prop}(a:A)(k:Q)(h:A->Hold Q->G:=by intro a k;(repeat' (first|refine wz ?_|refine wd a ?_|exact wkc|refine wk2 ?_ ?_|intro hc|fail));exact k.p):G:=h a ⟨k⟩
section
variable {n:Nat}{env0 envF:Env}{H0 HF:Heap}{K:TK}{id':Nat}{l:List Oper}{cargs:List SV}{v:SV}{Hc Hc1:Heap}
theorem rgY(c:Nat)(m:Sound Tryz.prog f cargs Hc fun r H'=>r= .ret v/\H'=Hc1)(t:List (SV×Nat×Nat))(hs:List Heap)(hK:K .normal envF HF)
  (hp:(Sound Tryz.prog f cargs Hc fun r H'=>r= .ret v/\H'=Hc1)->zgn Tryz.prog n K c True l.toArray (zaM l.toArray (t.map (·.1)) env0) hs 0 l t hs:=by
    intro m;repeat' (first|refine wz ?_|exact trivial|exact⟨⟨rfl,rfl⟩,trivial⟩|refine qav (fun env=>?_) ?_|refine qav ?_ ?_|refine wd m ?_|refine wk ?_|exact wkc|refine wk2 ?_ ?_|intro hc))
  (hB:(mixB l.toArray ((t.map (·.2)).map fun x=>Nat.blt x.2 x.1) && zjN l.toArray (t.map (·.2)) hs.length)=true:=by dsimp only[List.map,List.length];decide +kernel)(h0:hs[0]?=some H0:=by exact rfl)
  (hc:Nat.blt c l.length=true:=by exact rfl)(hF:hs[(t.filter efX).length]?=some HF:=by exact rfl)(hE:za7 (zaM l.toArray (t.map (·.1)) env0)=some envF:=by exact rfl):
  TR Tryz.prog n (.region id' l.toArray true) env0 H0 K:=TR.znW c t hs hmix hB h0 (hp m) hc hF hE fun _=>hK
theorem rgV(c:Nat)(m:Pure Tryz.prog f cargs v)(t:List (SV×Nat×Nat))(hs:List Heap)(hK:K .normal envF HF)
  (hp:Pure Tryz.prog f cargs v->zgn Tryz.prog n K c True l.toArray (zaM l.toArray (t.map (·.1)) env0) hs 0 l t hs:=by
    intro m;repeat' (first|refine wz ?_|exact trivial|exact⟨⟨rfl,rfl⟩,trivial⟩|refine qav (fun env=>?_) ?_|refine qav ?_ ?_|refine wv m ?_|refine wk ?_|exact wkc|refine wk2 ?_ ?_|intro hc))
  (hB:(mixB l.toArray ((t.map (·.2)).map fun x=>Nat.blt x.2 x.1) && zjN l.toArray (t.map (·.2)) hs.length)=true:=by dsimp only[List.map,List.length];decide +kernel)(h0:hs[0]?=some H0:=by exact rfl)
  (hc:Nat.blt c l.length=true:=by exact rfl)(hF:hs[(t.filter efX).length]?=some HF:=by exact rfl)(hE:za7 (zaM l.toArray (t.map (·.1)) env0)=some envF:=by exact rfl):
  TR Tryz.prog n (.region id' l.toArray true) env0 H0 K:=TR.znW c t hs hmix hB h0 (hp m) hc hF hE fun _=>hK
end
theorem rg0{n:Nat}{v:SV}(m:Pure Tryz.prog f cargs v)(t:List SV)(hK:K .normal envF H0)
  (hp:Pure Tryz.prog f cargs v->zi0 Tryz.prog n K True l.toArray (zaM l.toArray t env0) H0 l (t.map fun v=>(v,false)):=by
    intro m;repeat' (first|refine wz ?_|exact trivial|exact⟨⟨rfl,rfl⟩,trivial⟩|refine qav (fun env=>?_) ?_|refine qav ?_ ?_|refine wv m ?_|refine wk ?_|exact wkc|refine wk2 ?_ ?_|intro hc))
  (hB:mixB l.toArray (t.map fun _=>false)=true:=by dsimp only[List.map];decide +kernel)(hne:0<l.length:=by decide)(hE:za7 (zaM l.toArray t env0)=some envF:=by exact rfl):
  TR Tryz.prog n (.region id' l.toArray true) env0 H0 K:=rgS t (hp m) hK hB hne hE
theorem rg1{n:Nat}{v:SV}{Hc Hc1:Heap}(m:Sound Tryz.prog f cargs Hc fun r H'=>r= .ret v/\H'=Hc1)(t:List SV)(hK:K .normal envF H0)
  (hp:(Sound Tryz.prog f cargs Hc fun r H'=>r= .ret v/\H'=Hc1)->zi0 Tryz.prog n K True l.toArray (zaM l.toArray t env0) H0 l (t.map fun v=>(v,false)):=by
    intro m;repeat' (first|refine wz ?_|exact trivial|exact⟨⟨rfl,rfl⟩,trivial⟩|refine qav (fun env=>?_) ?_|refine qav ?_ ?_|refine wd m ?_|refine wk ?_|exact wkc|refine wk2 ?_ ?_|intro hc))
  (hB:mixB l.toArray (t.map fun _=>false)=true:=by dsimp only[List.map];decide +kernel)(hne:0<l.length:=by decide)(hE:za7 (zaM l.toArray t env0)=some envF:=by exact rfl):
  TR Tryz.prog n (.region id' l.toArray true) env0 H0 K:=rgS t (hp m) hK hB hne hE
theorem zzg{G:Prop}{n:Nat}(E:ι->Env)(H:ι->Heap)(I:ι->Prop)(a:(∀y,I y->TR P n c (E y) (H y) K)->G)(k:∀y,I y->TR P n c (E y) (H y) K):G:=a k
theorem zxB{n:Nat}{E:ι->Env}{H:ι->Heap}{I:ι->Prop}(key:∀y,I y->TR P n c (E y) (H y) K)(y:ι)(hy:I y)(hs:env.sub (E y):=by repeat' (first|exact trivial|refine qav rfl ?_|fail))(hH:H0=H y:=by exact rfl):TR P n c env H0 K:=by
 subst hH;exact TR.sub _ hs (key y hy)
theorem leM{vs:List SV}{k o t v:Int}{s:Str}{l:List Ex}{L:List T}(h:exC (mkE k o t v s l)=L)(hl:Le (pack vs) (.t (.ag L)):=by exact leX):Le (pack vs) (vX (mkE k o t v s l)):=by
 unfold vX xT;rw[h];exact hl
def zvr(l:List Tok)(n:Int)(es:List En):Prop:=∀(f:Nat->PR Ex) (i:Nat),i≤l.length->(∀j,j≤l.length->ExK l n es 115 [] j (j+1) (f j))->(∀j,j≤(rdr l es).K.length->InR (rdr l es).K.length (j+1) (f j))->ExK l n es 202 [] i (i+1) ((rdr l es).merge f i)
def zyx(l:List Tok)(n:Int)(es:List En):Prop:=∀(f g:Nat->PR Ex) (s:Str) (i:Nat),i≤l.length->(∀j,j≤l.length->ExK l n es 115 [] j (j+1) (f j))->(∀j,j≤l.length->ExK l n es 195 [] j (j+1) (g j))->
 (∀j,j≤(rdr l es).K.length->InR (rdr l es).K.length (j+1) (f j))->(∀j,j≤(rdr l es).K.length->InR (rdr l es).K.length (j+1) (g j))->ExK l n es 203 [.s s] i (i+1) ((rdr l es).call f g s i)
theorem zBa (l:List Tok) (n:Int) (es:List En) (hM:zvr l n es) (hC:zyx l n es) (i:Nat) (hi:i≤l.length) (hk:TkOk l) (hes:EsOk es) {f g:Nat->PR Ex} (hf:∀j,j≤l.length->ExK l n es 115 [] j (j+1) (f j))
  (hg:∀j,j≤l.length->ExK l n es 195 [] j (j+1) (g j)) (hfi:∀j,j≤(rdr l es).K.length->InR (rdr l es).K.length (j+1) (f j)) (hgi:∀j,j≤(rdr l es).K.length->InR (rdr l es).K.length (j+1) (g j)):
  ExK l n es 195 [] i (i+1) ((rdr l es).prim f g i):=by
 refine .of (fun h=>zsT hfi hgi h) hi fun x jx hr _ _=>?_
 have hl:=hk.len;have hml:(l.map tokT).length=l.length:=qac _;have m0:=zl9 l n es i hl hi;unfold Rd.prim at hr;refine so Tryz.func195 ?_;split at hr
 ·rename_i g0;rw[g0]at m0;unfold Rd.neg at g0;rw[qar]at g0;obtain⟨hlt,hk2⟩:=zhw g0.2;have hnv:=hk.num _ (qak hlt) hk2;have hx:=zdR hlt;have hx':(l.map tokT)[((i:Int)+2-1).toNat]?=some (.ag [T.i l[i+1].1,.s l[i+1].2.1,T.i l[i+1].2.2]):=by rw[show((i:Int)+2-1).toNat=i+1 by omega];exact hx
  have hb:=zsG hnv;rw[zk7 hlt]at hr;have hv:=zf7 _ hnv.2 hnv.1;generalize l[i+1]=t at*;generalize numV t.2.1=v at*;cases hr;repeat' (first|refine wz ?_|refine wd m0 ?_|exact wkc|refine wk2 ?_ ?_|intro hc)
  refine rgV 0 hv [(.ref 0 0,0,1),(.ref 0 0,0,1),(.ref 0 0,0,1),(.t (.sl 3 (l.map tokT)),0,1),(.ref 0 0,0,1),(.ref 0 0,0,1),(.ref 0 2,0,1),(.i ((i:Int)+2),0,1),(.i ((i:Int)+2-1),0,1),(.cp [T.i t.1,.s t.2.1,T.i t.2.2] 0,0,1),(.cp [T.i t.1,.s t.2.1,T.i t.2.2] 1,0,1),(.s t.2.1,0,1),(.i v,0,1),(.i (-v),0,1),(.t (.ag [T.i 1,T.i 0,T.i 2,T.i (-v),T.v (str []),.v (.slice none 0 0)]),0,1),(.t (.v undef),1,0)] [[rdB l n es (i+2),exZ],[rdB l n es (i+2),.cells [.t (T.i 1),.t (T.i 0),.t (T.i 2),.t (T.i (-v)),.t (T.v (str [])),.t (.v (.slice none 0 0))]]] ?_;refine ya ?_;exact rdO rfl (leM (zbJ 1 0 2 _ _ _ rfl rfl rfl (zdN oA)))
 rename_i g0;rw[qaR.2 g0]at m0;have m1:=zbp l n es i [45] hl;repeat' (first|refine wz ?_|refine wd m0 ?_|exact wkc|refine wk2 ?_ ?_|intro hc)
 split at hr
 ·cases hr
 rename_i g1;rw[qaR.2 g1]at m1;have m2:=zbT l n es i 2 hl;repeat' (first|refine wz ?_|refine wd m1 ?_|exact wkc|refine wk2 ?_ ?_|intro hc)
 split at hr
 ·rename_i g2;rw[g2]at m2;obtain⟨hlt,hk2⟩:=zhw g2;have hnv:=hk.num _ (qak hlt) hk2;have hx:=zdR hlt;have hb:=zsG hnv;rw[zk7 hlt]at hr;have hv:=zf7 _ hnv.2 hnv.1;generalize l[i]=t at*;generalize numV t.2.1=v at*;split at hr
  ·cases hr
  rename_i hc;cases hr;repeat' (first|refine wz ?_|refine wd m2 ?_|exact wkc|refine wk2 ?_ ?_|intro hc)
  refine rg0 hv [.ref 0 0,.ref 0 0,.ref 0 0,.t (.sl 3 (l.map tokT)),.ref 0 0,.ref 0 0,.ref 0 2,.i i,.cp [T.i t.1,.s t.2.1,T.i t.2.2] 0,.cp [T.i t.1,.s t.2.1,T.i t.2.2] 1,.s t.2.1,.i v,.i v] ?_;repeat' (first|refine wz ?_|exact wkc|refine wk2 ?_ ?_|intro hc)
  refine ya ?_;exact rdO rfl (leM (zbJ 1 0 2 _ _ _ rfl rfl rfl (zdN oA)))
 rename_i g2;rw[qaR.2 g2]at m2;have m3:=zbT l n es i 5 hl;repeat' (first|refine wz ?_|refine wd m2 ?_|exact wkc|refine wk2 ?_ ?_|intro hc)
 split at hr
 ·rename_i g3;rw[g3]at m3;obtain⟨hlt,_⟩:=zhw g3;have hx:=zdR hlt;have hx':(l.map tokT)[((i:Int)+1-1).toNat]?=some (.ag [T.i l[i].1,.s l[i].2.1,T.i l[i].2.2]):=by rw[show((i:Int)+1-1).toNat=i by omega];exact hx
  rw[zk7 hlt]at hr;generalize l[i]=t at*;cases hr;repeat' (first|refine wz ?_|refine wd m3 ?_|exact wkc|refine wk2 ?_ ?_|intro hc)
  refine rgY 0 m3 [(.ref 0 0,0,1),(.ref 0 0,0,1),(.ref 0 0,0,1),(.t (.sl 3 (l.map tokT)),0,1),(.ref 0 0,0,1),(.ref 0 0,0,1),(.ref 0 2,0,1),(.i ((i:Int)+1),0,1),(.i ((i:Int)+1-1),0,1),(.cp [T.i t.1,.s t.2.1,T.i t.2.2] 0,0,1),(.cp [T.i t.1,.s t.2.1,T.i t.2.2] 1,0,1),(.s t.2.1,0,1),(.t (.ag [T.i 11,T.i 0,T.i 0,T.i 0,T.s t.2.1,.v (.slice none 0 0)]),0,1),(.t (.v undef),1,0)] [[rdB l n es (i+1),exZ],[rdB l n es (i+1),.cells [.t (T.i 11),.t (T.i 0),.t (T.i 0),.t (T.i 0),.t (T.s t.2.1),.t (.v (.slice none 0 0))]]] ?_;refine ya ?_;exact rdO rfl (leM (zbJ 11 0 0 0 _ _))
 rename_i g3;rw[qaR.2 g3]at m3;have m4:=zay l n es i [116,114,117,101] hl hi;repeat' (first|refine wz ?_|refine wd m3 ?_|exact wkc|refine wk2 ?_ ?_|intro hc)
 split at hr
 ·rename_i g4;rw[g4,oG rfl]at m4;cases hr;repeat' (first|refine wz ?_|refine wd m4 ?_|exact wkc|refine wk2 ?_ ?_|intro hc)
  refine ya ?_;exact rdO rfl (leM (zbJ 1 0 1 1 _ _))
 rename_i g4;rw[qaR.2 g4,oH oB]at m4;have m5:=zay l n es i [102,97,108,115,101] hl hi;repeat' (first|refine wz ?_|refine wd m4 ?_|exact wkc|refine wk2 ?_ ?_|intro hc)
 split at hr
 ·rename_i g5;rw[g5,oG rfl]at m5;cases hr;repeat' (first|refine wz ?_|refine wd m5 ?_|exact wkc|refine wk2 ?_ ?_|intro hc)
  refine ya ?_;exact rdO rfl (leM (zbJ 1 0 1 0 _ _))
 rename_i g5;rw[qaR.2 g5,oH oB]at m5;have m6:=zay l n es i [40] hl hi;repeat' (first|refine wz ?_|refine wd m5 ?_|exact wkc|refine wk2 ?_ ?_|intro hc)
 split at hr
 ·rename_i g6;rw[g6,oG rfl]at m6;have hlt:=zal g6;rw[zau]at hlt;obtain⟨e,j1,_,a1,_,b1,hr⟩:=(hf (i+1) hlt).get hr;obtain⟨_,j2,_,a2,_,b2,hr⟩:=(zco l n es j1 [[41]] hl b1 oB).get hr;cases hr;repeat' (first|refine wz ?_|refine wd m6 ?_|refine wd a1 ?_|refine wd a2 ?_|exact wkc|refine wk2 ?_ ?_|intro hc)
  refine ya ?_;exact rdO rfl leX
 rename_i g6;rw[qaR.2 g6,oH oB]at m6;have m7:=zay l n es i [105,102] hl hi;repeat' (first|refine wz ?_|refine wd m6 ?_|exact wkc|refine wk2 ?_ ?_|intro hc)
 split at hr
 ·rename_i g7;rw[g7,oG rfl]at m7;have hlt:=zal g7;rw[zau]at hlt;obtain⟨a,j1,_,a1,_,b1,hr⟩:=(hf (i+1) hlt).get hr;obtain⟨_,j2,_,a2,_,b2,hr⟩:=(zco l n es j1 [[116,104,101,110]] hl b1 oB).get hr;obtain⟨b,j3,_,a3,_,b3,hr⟩:=(hf j2 b2).get hr;obtain⟨_,j4,_,a4,_,b4,hr⟩:=(zco l n es j3 [[101,108,115,101]] hl b3 oB).get hr;obtain⟨c,j5,_,a5,_,b5,hr⟩:=(hf j4 b4).get hr;cases hr;repeat' (first|refine wz ?_|refine wd m7 ?_|refine wd a1 ?_|refine wd a2 ?_|refine wd a3 ?_|refine wd a4 ?_|exact wkc|refine wk2 ?_ ?_|intro hc)
  refine rgY 3 a5 [(vX a,0,1),(vX b,0,1),(.ref 0 0,0,1),(vX c,1,0),(.t (.sl 6 [xT a,xT b,xT c]),1,1),(.t (.ag (exD 4 0 0 0 [] [xT a,xT b,xT c])),1,1),(.t (.v undef),1,0)] [[rdB l n es j4,exZ],[rdB l n es jx,exZ],[rdB l n es jx,ceB (exD 4 0 0 0 [] [xT a,xT b,xT c])]] ?_;refine ya ?_;exact rdO rfl (leM (L:=exD 4 0 0 0 [] [xT a,xT b,xT c]) (by rw[zbJ 4 0 0 0,qaf,qaf,qaf,qaD,zan a,zan b,zan c]))
 rename_i g7;rw[qaR.2 g7,oH oB]at m7;have m8:=zay l n es i [109,101,114,103,101] hl hi;repeat' (first|refine wz ?_|refine wd m7 ?_|exact wkc|refine wk2 ?_ ?_|intro hc)
 split at hr
 ·rename_i g8;rw[g8,oG rfl]at m8;have hlt:=zal g8;rw[zau]at hlt;obtain⟨a1,_⟩:=hM f (i+1) hlt hf hfi _ _ hr;repeat' (first|refine wz ?_|refine wd m8 ?_|refine wd a1 ?_|exact wkc|refine wk2 ?_ ?_|intro hc)
  refine ya ?_;exact rdO rfl leX
 rename_i g8;rw[qaR.2 g8,oH oB]at m8;unfold Rd.ident at hr;obtain⟨s,j,_,a1,_,b1,hr⟩:=(idK l n es i hl hi).get hr;have m9:=zay l n es j [40] hl b1;repeat' (first|refine wz ?_|refine wd m8 ?_|refine wd a1 ?_|exact wkc|refine wk2 ?_ ?_|intro hc)
 split at hr
 ·rename_i g9;rw[g9,oG rfl]at m9;have hlt:=zal g9;rw[zau]at hlt;obtain⟨a2,_⟩:=hC f g s (j+1) hlt hf hg hfi hgi _ _ hr;repeat' (first|refine wz ?_|refine wd m9 ?_|refine wd a2 ?_|exact wkc|refine wk2 ?_ ?_|intro hc)
  refine ya ?_;exact rdO rfl leX
 rename_i g9;rw[qaR.2 g9,oH oB]at m9;have ht:=zgN l n es j s hes;cases hq:(rdr l es).tag s with
 | some tv=>
   rw[hq]at ht hr;obtain⟨v1,v2,u,v3,v4⟩:=ztw hes hq
   have:=hes.len
   have:=hes.tags u (qau v3)
   cases hr;unfold tagR at ht;repeat' (first|refine wz ?_|refine wd m9 ?_|refine wd ht ?_|exact wkc|refine wk2 ?_ ?_|intro hc)
   refine ya ?_;exact rdO rfl (leM (zbJ 1 0 tv.1 tv.2 _ _ rfl rfl (zdN oA) (zdN oA)))
 | none=>
   rw[hq]at ht hr;cases hr;unfold tagR at ht;repeat' (first|refine wz ?_|refine wd m9 ?_|refine wd ht ?_|exact wkc|refine wk2 ?_ ?_|intro hc)
   refine ya ?_;exact rdO rfl (leM (zbJ 2 0 0 0 _ _))
theorem zAp (l:List Tok) (n:Int) (es:List En) (i t v:Nat) (known:Bool) (hk:TkOk l) (hes:EsOk es) (hi:i≤l.length):RdK l n es 210 [.i t,.i v,.b known] i i ((rdr l es).wanted t v known i) vU:=by
 refine .of zmZ hi fun x jx hr _ _=>?_
 have hl:=hk.len;have m1:=zbp l n es i [116,114,117,101] hl;have m2:=zbp l n es i [102,97,108,115,101] hl;have m3:=zbT l n es i 1 hl;unfold Rd.wanted at hr;refine so Tryz.func210 ?_;split at hr
 ·rename_i h1;rw[h1]at m1;split at hr
  ·cases hr
  rename_i hc;cases hr;obtain rfl:v=1:=qaA fun h=>hc (.inr h)
  cases known with
  | true=>
    obtain rfl:t=1:=qaA fun h=>hc (.inl ⟨rfl,h⟩)
    repeat' (first|refine wz ?_|refine wd m1 ?_|exact wkc|refine wk2 ?_ ?_|intro hc)
    repeat' (first|refine wu ?_|exact wkc|refine wk2 ?_ ?_|intro hc)
    first|exact rdO (vs:=[]) rfl (Le.refl _)|exact rdON (vs:=[]) rfl (Le.refl _)
  | false=>
    repeat' (first|refine wz ?_|refine wd m1 ?_|exact wkc|refine wk2 ?_ ?_|intro hc)
    repeat' (first|refine wu ?_|exact wkc|refine wk2 ?_ ?_|intro hc)
    first|exact rdO (vs:=[]) rfl (Le.refl _)|exact rdON (vs:=[]) rfl (Le.refl _)
 rename_i h1;rw[qaR.2 h1]at m1;split at hr
 ·rename_i h2;rw[h2]at m2;split at hr
  ·cases hr
  rename_i hc;cases hr;have hv:v≠1:=fun h=>hc (.inr (.inl h))
  cases known with
  | false=>exact oI (.inr (.inr rfl)) hc
  | true=>
  obtain rfl:t=1:=qaA fun h=>hc (.inl ⟨rfl,h⟩)
  repeat' (first|refine wz ?_|refine wd m1 ?_|refine wd m2 ?_|exact wkc|refine wk2 ?_ ?_|intro hc)
  repeat' (first|refine wu ?_|exact wkc|refine wk2 ?_ ?_|intro hc)
  first|exact rdO (vs:=[]) rfl (Le.refl _)|exact rdON (vs:=[]) rfl (Le.refl _)
 rename_i h2;rw[qaR.2 h2]at m2;split at hr
 ·cases hr
 rename_i h3;rw[Bool.not_eq_false]at h3;rw[h3]at m3;obtain⟨hlt,_⟩:=zhw h3;have hg:=zgN l n es i ((rdr l es).txt i) hes;have hml:(l.map tokT).length=l.length:=qac _;have hx:=zdR hlt;rw[zk7 hlt]at hr hg;generalize l[i]=tk at*;cases hqt:(rdr l es).tag tk.2.1 with
 | none=>
   rw[hqt]at hg hr;unfold tagR at hg;cases known with
   | true=>cases hr
   | false=>
   cases hr;repeat' (first|refine wz ?_|refine wd m1 ?_|refine wd m2 ?_|refine wd m3 ?_|exact wkc|refine wk2 ?_ ?_|intro hc)
   refine rg1 hg [.ref 0 0,.ref 0 0,.ref 0 0,.ref 0 0,.t (.sl 3 (l.map tokT)),.ref 0 0,.ref 0 0,.ref 0 2,.i i,.cp [T.i tk.1,.s tk.2.1,T.i tk.2.2] 0,.cp [T.i tk.1,.s tk.2.1,T.i tk.2.2] 1,.s tk.2.1,.tup [.i 0,.i 0,.b false],.tup [.i 0,.i 0,.b false],.i 0,.i 0,.b false,.i 0,.i 0,.b false] ?_;refine ya ?_;exact rdON (vs:=[]) rfl (Le.refl _)
 | some uw=>
   rw[hqt]at hg hr;unfold tagR at hg;obtain⟨u,w⟩:=uw;simp only at hr hg;split at hr
   ·cases hr
   rename_i hc;cases hr
   have hc2:(known=true/\u=t/\w=v)\/(known=false/\w=0):=by
    clear hg m1 m2 m3 hx;cases known
    ·right;simpa using hc
    ·left;simpa using hc
   rcases hc2 with ⟨rfl,rfl,rfl⟩|⟨rfl,rfl⟩
   all_goals
    repeat' (first|refine wz ?_|refine wd m1 ?_|refine wd m2 ?_|refine wd m3 ?_|exact wkc|refine wk2 ?_ ?_|intro hc)
   ·refine rg1 hg [.ref 0 0,.ref 0 0,.ref 0 0,.ref 0 0,.t (.sl 3 (l.map tokT)),.ref 0 0,.ref 0 0,.ref 0 2,.i i,.cp [T.i tk.1,.s tk.2.1,T.i tk.2.2] 0,.cp [T.i tk.1,.s tk.2.1,T.i tk.2.2] 1,.s tk.2.1,.tup [.i (u:Int),.i (w:Int),.b true],.tup [.i (u:Int),.i (w:Int),.b true],.i (u:Int),.i (w:Int),.b true,.i (u:Int),.i (w:Int),.b true] ?_;refine ya ?_;exact rdON (vs:=[]) rfl (Le.refl _)
   ·refine rg1 hg [.ref 0 0,.ref 0 0,.ref 0 0,.ref 0 0,.t (.sl 3 (l.map tokT)),.ref 0 0,.ref 0 0,.ref 0 2,.i i,.cp [T.i tk.1,.s tk.2.1,T.i tk.2.2] 0,.cp [T.i tk.1,.s tk.2.1,T.i tk.2.2] 1,.s tk.2.1,.tup [.i (u:Int),.i ((0:Nat):Int),.b true],.tup [.i (u:Int),.i ((0:Nat):Int),.b true],.i (u:Int),.i ((0:Nat):Int),.b true,.i (u:Int),.i ((0:Nat):Int),.b true] ?_;refine ya ?_;exact rdON (vs:=[]) rfl (Le.refl _)
theorem zsk{G:Prop}{n:Nat}{ops:List Oper}(E:ι->Env)(H:ι->Heap)(I:ι->Prop)(a:(∀y,I y->TO q P n all ops (E y) (H y) K)->G)(k:∀y,I y->TO q P n all ops (E y) (H y) K):G:=a k
theorem zjE{n:Nat}{ops:List Oper}{E:ι->Env}{H:ι->Heap}{I:ι->Prop}(key:∀y,I y->TO q P n all ops (E y) (H y) K)(y:ι)(hy:I y)(hs:env.sub (E y):=by repeat' (first|exact trivial|refine qav rfl ?_|fail))(hH:H0=H y:=by exact rfl):TO q P n all ops env H0 K:=by
 subst hH;exact TO.sub _ hs (key y hy)
abbrev caH (l:List Tok)(n:Int)(es:List En)(s:Str)(j:Nat)(xs:List T)(k:Nat):Heap:=[rdB l n es j,exZ,cB s xs,.tail k]
theorem zAw (l:List Tok) (n:Int) (es:List En) (hl:l.length≤1000000):zyx l n es:=by
 intro f g s i hi hF hG hfi hgi;refine .of (fun h=>zrz hfi hgi s h) hi fun x jx hr _ _=>?_
 have m1:=zay l n es i [41] hl hi;unfold Rd.call at hr;refine so Tryz.func203 ?_;repeat' (first|refine wkb ?_|refine wk ?_|exact wkc|refine wk2 ?_ ?_|intro hc)
 refine TO.zdg 6 2 5 rfl rfl rfl ?_;apply zsk (ι:=Nat×List Ex) (E:=fun _=>[(0,.ref 0 0),(5,.ref 2 0),(4,.ref 1 0),(30,.ref 0 0)]) (H:=fun y=>caH l n es s y.1 (y.2.map exT) (y.2.map exT).length) (I:=fun y=>y.1≤l.length/\y.2.length≤y.1+1/\(if(rdr l es).isAt y.1 [101,118,101,114,121]=true then(g (y.1+1)).bind fun a j=>.ok (mkE 10 0 0 1 s (y.2++[a])) j else .ok (mkE 10 0 0 0 s y.2) y.1)= .ok x jx)
 ·intro key;obtain⟨L,j,q,hr⟩:=zjm hr;split at q
  ·rename_i h1;rw[h1,oG rfl]at m1;have hlt:=zal h1;rw[zau]at hlt;cases q;refine yg m1 ?_;exact zjE key (i+1,[]) ⟨hlt,by show 0≤_;omega,hr⟩
  ·rename_i h1;rw[oH h1,qaR.2 h1]at m1;obtain⟨a,j1,_,a1,b0,b1,q⟩:=(hF i hi).get q;repeat' (first|refine wz ?_|refine wd m1 ?_|exact wkc|refine wk2 ?_ ?_|intro hc)
   refine rgY 3 a1 [(.ref 2 5,0,1),(.sl 6 ([]:List T) 3,0,1),(.ref 0 0,0,1),(vX a,1,0),(.t (.sl 6 [xT a]),1,1),(.sl 6 ([]++[xT a]) 3,1,0),(.ref 2 5,0,2),(.t (.v undef),1,0)] [caH l n es s i [] 0,caH l n es s j1 [] 0,caH l n es s j1 [] 1,caH l n es s j1 ([]++[xT a]) 1] ?_;repeat' (first|refine wu ?_|exact wkc|refine wk2 ?_ ?_|intro hc)
   refine TR.zbk (ι:=Nat×Nat×List Ex) (fun y=>y.2.1≤l.length/\l.length-y.2.1≤y.1/\y.2.2.length≤y.2.1+1/\(((rdr l es).args f y.1 y.2.2 y.2.1).bind fun l2 j=>((rdr l es).must [[41]] j).bind fun _ j=>(.ok l2 j:PR (List Ex)))= .ok L j) (fun y=>l.length-y.2.1) (fun _=>[(0,.ref 0 0),(5,.ref 2 0),(4,.ref 1 0)]) (fun y=>caH l n es s y.2.1 (y.2.2.map exT) (y.2.2.map exT).length) ((rdr l es).K.length,j1,[a])
    ⟨b1,by rw[zau];show l.length-j1≤l.length;omega,by show 1≤j1+1;omega,q⟩ ⟨rfl,rfl,rfl,trivial⟩ (by show _=caH l n es s j1 ([a].map exT) 1;rw[qaf,qaD,zan a];rfl) ?_
   clear q a1 m1 b0 b1;rintro⟨m,k,xs⟩ ⟨q1,q2,q3,q⟩;replace q1:k≤l.length:=q1;replace q2:l.length-k≤m:=q2;replace q3:xs.length≤k+1:=q3;have hml:(xs.map exT).length=xs.length:=qac _;have m1:=zay l n es k [44] hl q1;cases hw:(rdr l es).isAt k [44] with
   | false=>
     rw[hw,oH oB]at m1;simp only[zrh hw,PR.bind]at q;obtain⟨_,k2,_,a2,b2,b3,q⟩:=(zco l n es k [[41]] hl q1 oB).get q;cases q;repeat' (first|refine wz ?_|refine wd m1 ?_|refine zac.exit ?_|refine wk ?_|refine wd a2 ?_|exact wkc|refine wk2 ?_ ?_|intro hc)
     exact zjE key (j,L) ⟨b3,by show L.length≤j+1;omega,hr⟩
   | true=>
     have hlt:=zal hw;rw[zau]at hlt;rw[hw,oG rfl]at m1;cases m with
     | zero=>exfalso;omega
     | succ m=>
     rw[Rd.args,oG hw,zfK]at q;obtain⟨b,k2,_,a2,b2,b3,q⟩:=(hF (k+1) hlt).get q;repeat' (first|refine wz ?_|refine wd m1 ?_|exact wkc|refine wk2 ?_ ?_|intro hc)
     refine rgY 3 a2 [(.ref 2 5,0,1),(.sl 6 (xs.map exT) 3,0,1),(.ref 0 0,0,1),(vX b,1,0),(.t (.sl 6 [xT b]),1,1),(.sl 6 (xs.map exT++[xT b]) 3,1,0),(.ref 2 5,0,2),(.t (.v undef),1,0)] [caH l n es s (k+1) (xs.map exT) (xs.map exT).length,caH l n es s k2 (xs.map exT) (xs.map exT).length,caH l n es s k2 (xs.map exT) ((xs.map exT).length+1),caH l n es s k2 (xs.map exT++[xT b]) ((xs.map exT).length+1)] ?_;refine ya ?_;refine zac.next (m,k2,xs++[b]) ⟨b3,?_,?_,q⟩ ?_ ⟨rfl,rfl,rfl,trivial⟩ ?_
     ·show l.length-k2≤m;omega
     ·show(xs++[b]).length≤k2+1;rw[qab];simp only[qae,qal];omega
     ·show l.length-k2<l.length-k;omega
     ·show _=caH l n es s k2 ((xs++[b]).map exT) ((xs++[b]).map exT).length;rw[qaw,qaf,qaD,zan b,qab];rfl
 ·rintro⟨j,xs⟩ ⟨h1,h2,hr⟩;replace h1:j≤l.length:=h1;replace h2:xs.length≤j+1:=h2;have hml:(xs.map exT).length=xs.length:=qac _;have m2:=zay l n es j [101,118,101,114,121] hl h1;show TO _ _ _ _ _ _ (caH l n es s j (xs.map exT) (xs.map exT).length) _;split at hr
  ·rename_i h3;rw[h3,oG rfl]at m2;have hlt:=zal h3;rw[zau]at hlt;obtain⟨a,j1,_,a1,b0,b1,hr⟩:=(hG (j+1) hlt).get hr;cases hr;repeat' (first|refine wz ?_|refine wd m2 ?_|exact wkc|refine wk2 ?_ ?_|intro hc)
   refine rgY 3 a1 [(.ref 2 5,0,1),(.sl 6 (xs.map exT) 3,0,1),(.ref 0 0,0,1),(vX a,1,0),(.t (.sl 6 [xT a]),1,1),(.sl 6 (xs.map exT++[xT a]) 3,1,0),(.ref 2 5,0,2),(.t (.v undef),1,0)] [caH l n es s (j+1) (xs.map exT) (xs.map exT).length,caH l n es s jx (xs.map exT) (xs.map exT).length,caH l n es s jx (xs.map exT) ((xs.map exT).length+1),caH l n es s jx (xs.map exT++[xT a]) ((xs.map exT).length+1)] ?_;refine ya ?_;exact rdO rfl (leM (L:=exD 10 0 0 1 s (xs.map exT++[xT a])) (by rw[zbJ 10 0 0 1,qaw,qaf,qaD,zan a]))
  ·rename_i h3;rw[qaR.2 h3,oH oB]at m2;cases hr;repeat' (first|refine wz ?_|refine wd m2 ?_|exact wkc|refine wk2 ?_ ?_|intro hc)
   refine ya ?_;exact rdO rfl (leM (zbJ 10 0 0 0 _ _))
structure MgS where
 t:Nat
 m:Nat
 k:Nat
 xs:List Ex
 j:Nat
 w:Nat
abbrev mgH (l:List Tok)(n:Int)(es:List En)(s:Str)(t j:Nat)(xs:List Ex):Heap:=[rdB l n es j,exZ,mB t s (.ms 6 3 0 ((rdr l es).size t)),.cells (zey xs)]
def mgI(R:Rd)(f:Nat->PR Ex)(s:Str)(j0:Nat)(x:Ex)(jx len:Nat):Option (Nat×Nat×Nat×List Ex×Nat)->Prop
 | none=>R.mA f s (if R.isAt (j0+1) [116,114,117,101]=true then 1 else 0) j0= .ok x jx
 | some (t,m,k,xs,j)=>j≤len/\R.size t-k≤m/\1≤k/\xs.length=R.size t/\(t=1\/3≤t)/\t≤6000000/\R.size t≤3000000/\R.mrest f s t m k xs j= .ok x jx
def mgM(R:Rd):Option (Nat×Nat×Nat×List Ex×Nat)->Nat
 | none=>6000000
 | some (t,_,k,_,_)=>R.size t-k
def mgE(R:Rd):Option (Nat×Nat×Nat×List Ex×Nat)->Env
 | none=>[(0,.ref 0 0),(2,.ref 1 0),(3,.ref 2 0),(4,.i 1),(5,.i 0)]
 | some (t,_,k,_,_)=>[(0,.ref 0 0),(2,.ref 1 0),(3,.ref 2 0),(4,.i (R.size t:Nat)),(5,.i (k:Nat))]
def mgG(l:List Tok)(n:Int)(es:List En)(s:Str)(j0:Nat):Option (Nat×Nat×Nat×List Ex×Nat)->Heap
 | none=>[rdB l n es j0,exZ,mB 0 s (.t (.v (.slice none 0 0)))]
 | some (t,_,_,xs,j)=>mgH l n es s t j xs
theorem zzx (l:List Tok) (n:Int) (es:List En) (hk:TkOk l) (hes:EsOk es):zvr l n es:=by
 intro f i hi hF hfi;refine .of (fun h=>zpc hfi h) hi fun x jx hr _ _=>?_
 have hl:=hk.len;rw[zuG]at hr;obtain⟨s,j0,_,a0,_,b0,hr⟩:=(idK l n es i hl hi).get hr;refine so Tryz.func202 ?_;repeat' (first|refine wkb ?_|refine wk ?_|refine wd a0 ?_|exact wkc|refine wk2 ?_ ?_|intro hc)
 refine TR.zbk (mgI (rdr l es) f s j0 x jx l.length) (mgM (rdr l es)) (mgE (rdr l es)) (mgG l n es s j0) none hr ⟨rfl,rfl,rfl,rfl,rfl,trivial⟩ rfl ?_;clear hr a0;intro y hI;apply zzg (E:=fun z:MgS=>[(0,.ref 0 0),(2,.ref 1 0),(3,.ref 2 0),(4,.i ((rdr l es).size z.t:Nat)),(5,.i (z.k:Nat)),(7,.i (z.w:Nat))]) (H:=fun z=>mgH l n es s z.t z.j z.xs) (I:=fun z=>z.j≤l.length/\(rdr l es).size z.t-(z.k+1)≤z.m/\z.xs.length=(rdr l es).size z.t/\z.w<(rdr l es).size z.t/\z.k<(rdr l es).size z.t/\(z.t=1\/3≤z.t)/\z.t≤6000000/\(rdr l es).size z.t≤3000000/\(rdr l es).size z.t-(z.k+1)<mgM (rdr l es) y/\((f z.j).bind fun e j=>((rdr l es).must [[41]] j).bind fun _ j=>(rdr l es).mrest f s z.t z.m (z.k+1) (z.xs.set z.w e) j)= .ok x jx)
 ·intro key;obtain hy|⟨⟨t,m,k,xs,j⟩,hy⟩:y=none\/∃z,y=some z:=by cases y <;> simp
  ·have hM:mgM (rdr l es) y=6000000:=by rw[hy];rfl
   have hr:mgI (rdr l es) f s j0 x jx l.length none:=hy ▸ hI;rw[show mgE (rdr l es) y=[(0,.ref 0 0),(2,.ref 1 0),(3,.ref 2 0),(4,.i 1),(5,.i 0)] by rw[hy];rfl,show mgG l n es s j0 y=[rdB l n es j0,exZ,mB 0 s (.t (.v (.slice none 0 0)))] by rw[hy];rfl];replace hr:(rdr l es).mA f s (if(rdr l es).isAt (j0+1) [116,114,117,101]=true then 1 else 0) j0= .ok x jx:=hr;unfold Rd.mA Rd.branch at hr;simp only[zfK]at hr;obtain⟨_,j1,q1,m1,_,b1,hr⟩:=(zco l n es j0 [[40]] hl b0 oB).get hr;have e1:=zpf q1;subst e1;have h1:=zbp l n es (j0+1) [116,114,117,101] hl;generalize hw:(if(rdr l es).isAt (j0+1) [116,114,117,101]=true then 1 else 0)=w at hr;obtain⟨_,j2,q2,m2,_,b2,hr⟩:=(zAp l n es (j0+1) 0 w false hk hes b1).get hr;have e2:=zmY q2;subst e2;obtain⟨⟨t,v⟩,j3,q3,m3,_,b3,hr⟩:=(zw1 l n es (j0+1) hl b1 hes).get hr;have hw2:w≤1:=by rw[<-hw];split <;> decide
   obtain⟨hty,hwS⟩:=zr2 (w:=w) hes (fun h=>by rw[h]at hw;split at hw <;> first|assumption|cases hw) hw2 q3;have hSle:=size_le (l:=l) hes hty;obtain⟨⟨hv1,hv2⟩,_⟩:=zj9 hes q3;simp only at hty hwS hSle hv1 hv2;rw[oH (fun h=>Bool.noConfusion h.1)]at hr;simp only[zfK]at hr;obtain⟨_,j4,q4,m4,_,b4,hr⟩:=(zco l n es j3 [[45,62]] hl b3 oB).get hr;have hsz:Pure Tryz.prog 98 [.t (.sl 2 (es.map enT)),.i (t:Int)] (.i (((rdr l es).size t:Nat):Int)):=by rw[<-zx7 hty];exact zfd es ⟨(t:Int),oA⟩
   have hrl:(List.replicate ((rdr l es).size t) noE).length=(rdr l es).size t:=qb1;have hz:=key ⟨t,(rdr l es).size t,0,List.replicate ((rdr l es).size t) noE,j4,w⟩ ⟨b4,by show(rdr l es).size t-1≤(rdr l es).size t;omega,hrl,hwS,by show 0<(rdr l es).size t;omega,hty,hv1,hSle,by rw[hM];show(rdr l es).size t-1<6000000;omega,hr⟩;clear key hr;dsimp only at hz;cases hb:(rdr l es).isAt (j0+1) [116,114,117,101] with
   | true=>
     rw[hb]at h1;rw[oG hb]at hw;subst hw;refine wk ?_;repeat' (first|refine wz ?_|refine wd m1 ?_|refine wd h1 ?_|refine wd m2 ?_|refine wd m3 ?_|refine wv hsz ?_|exact wkc|refine wk2 ?_ ?_|intro hc)
     (apply TO.makeSlice zaf;(iterate 7 exact rfl);omega;exact rfl)
     refine TO.zzt 3 (cs':=zey (List.replicate ((rdr l es).size t) noE)) (H':=[rdB l n es j3,exZ,mB t s (.t (.v (.slice none 0 0))),.cells (zey (List.replicate ((rdr l es).size t) noE))]) rfl (by rw[ze5,zba,zba];rfl) (by rw[zba];show 0<_*6;omega) (by rw[ze5];exact zgS (z:=zE) (z':=exC noE) rfl zpl _) rfl ?_;refine yg m4 ?_;exact zsl hz
   | false=>
     rw[hb]at h1;rw[oH (by rw[hb];decide)]at hw;subst hw;refine wk ?_;repeat' (first|refine wz ?_|refine wd m1 ?_|refine wd h1 ?_|refine wd m2 ?_|refine wd m3 ?_|refine wv hsz ?_|exact wkc|refine wk2 ?_ ?_|intro hc)
     (apply TO.makeSlice zaf;(iterate 7 exact rfl);omega;exact rfl)
     refine TO.zzt 3 (cs':=zey (List.replicate ((rdr l es).size t) noE)) (H':=[rdB l n es j3,exZ,mB t s (.t (.v (.slice none 0 0))),.cells (zey (List.replicate ((rdr l es).size t) noE))]) rfl (by rw[ze5,zba,zba];rfl) (by rw[zba];show 0<_*6;omega) (by rw[ze5];exact zgS (z:=zE) (z':=exC noE) rfl zpl _) rfl ?_;refine yg m4 ?_;exact zsl hz
  ·have hM:mgM (rdr l es) y=(rdr l es).size t-k:=by rw[hy];rfl
   have hr:mgI (rdr l es) f s j0 x jx l.length (some (t,m,k,xs,j)):=hy ▸ hI;obtain⟨b0,q3,q4,q5,q6,q7,q8,hr⟩:=hr;rw[show mgE (rdr l es) y=[(0,.ref 0 0),(2,.ref 1 0),(3,.ref 2 0),(4,.i ((rdr l es).size t:Nat)),(5,.i (k:Nat))] by rw[hy];rfl,show mgG l n es s j0 y=mgH l n es s t j xs by rw[hy];rfl];by_cases hks:(rdr l es).size t≤k
   ·rw[zsy hks]at hr;clear key;have hml:(xs.map exT).length=(rdr l es).size t:=by rw[qac,q5]
    iterate 3 (first|(apply TR.go zaf 0 false;exact rfl;(first|apply GG.to|apply GG.stop|apply GG.tr0|apply GG.tr|apply GG.ex))|(apply TR.go0 zaf 0 false;exact rfl;(first|apply GG.to|apply GG.stop|apply GG.tr0|apply GG.tr|apply GG.ex)))
    refine TO.zr8 2 5 6 3 ((rdr l es).size t) (es:=xs.map exT) (H':=[rdB l n es j,exZ,mB t s (.t (.sl 6 (xs.map exT))),.dead]) rfl rfl rfl rfl (by rw[zlM,hml];omega) (fun j c hj=>hj) hml.symm (fun e he=>by obtain⟨a,_,rfl⟩:=qaL.1 he;rw[zan];rfl) rfl rfl ?_;repeat' (first|refine wkt ?_|refine zac.exit ?_|exact wkc|refine wk2 ?_ ?_|refine wk ?_|intro hc)
    cases hr;exact rdO rfl (leM (zbJ 9 0 t 0 _ _ rfl rfl (zdN oA) rfl))
   obtain⟨m,rfl⟩:∃m',m=m'+1:=⟨m-1,oA⟩;rw[zqF oA]at hr;unfold Rd.branch at hr;simp only[zfK]at hr;obtain⟨_,j1,q1,m1,_,b1,hr⟩:=(zco l n es j [[40]] hl b0 oB).get hr;have e1:=zpf q1;subst e1;obtain⟨_,j2,q2,m2,_,b2,hr⟩:=(zAp l n es (j+1) t _ true hk hes b1).get hr;have e2:=zmY q2;subst e2;obtain⟨⟨t2,v⟩,j3,q9,m3,_,b3,hr⟩:=(zw1 l n es (j+1) hl b1 hes).get hr;simp only at hr;split at hr
   ·cases hr
   rename_i hc;obtain rfl:t2=t:=qaA fun h=>hc ⟨trivial,h⟩
   clear hc;simp only[zfK]at hr;obtain⟨_,j4,_,m4,_,b4,hr⟩:=(zco l n es j3 [[45,62]] hl b3 oB).get hr
   have hwl:(if t2=1 then 1-k else k)<(rdr l es).size t2:=by
    split
    ·rename_i h;subst h;have:(rdr l es).size 1=2:=rfl;omega
    ·omega
   have hz:=key ⟨t2,m,k,xs,j4,if t2=1 then 1-k else k⟩ ⟨b4,by show(rdr l es).size t2-(k+1)≤m;omega,q5,hwl,by show k<(rdr l es).size t2;omega,q6,q7,q8,by rw[hM];show(rdr l es).size t2-(k+1)<(rdr l es).size t2-k;omega,hr⟩;clear key hr;dsimp only at hz;by_cases ht1:t2=1
   ·subst ht1;have hS:(rdr l es).size 1=2:=rfl;obtain rfl:k=1:=oA
    rw[oG rfl]at m2 hz;exact zwbl
   ·rw[oH ht1]at m2 hz;exact zwbl
 ·rintro⟨t,m,k,xs,j,w⟩ ⟨b1,q1,q2,q3,q8,q4,q5,q6,q7,hr⟩;replace q8:k<(rdr l es).size t:=q8;replace q1:(rdr l es).size t-(k+1)≤m:=q1;replace q2:xs.length=(rdr l es).size t:=q2;replace q3:w<(rdr l es).size t:=q3;replace q6:(rdr l es).size t≤3000000:=q6;show TR _ _ _ [(0,.ref 0 0),(2,.ref 1 0),(3,.ref 2 0),(4,.i ((rdr l es).size t:Nat)),(5,.i (k:Nat)),(7,.i (w:Nat))] (mgH l n es s t j xs) _;obtain⟨e,j5,_,m5,_,b5,hr⟩:=(hF j b1).get hr;obtain⟨_,j6,_,m6,_,b6,hr⟩:=(zco l n es j5 [[41]] hl b5 oB).get hr;repeat' (first|refine wz ?_|exact wkc|refine wk2 ?_ ?_|intro hc)
  refine rgX 4 (g:=True) [(.ref 2 5,0,1),((.ms 6 3 0 ((rdr l es).size t)),0,1),(.i (w:Nat),0,1),(.ref 0 0,0,1),(vX e,1,0),(.ref 3 (0+w*6),0,1),(.any,1,0)] [mgH l n es s t j xs,mgH l n es s t j5 xs,mgH l n es s t j5 (xs.set w e)] ?_ (fun _=>?_)
  ·repeat' (first|refine wz ?_|exact trivial|exact⟨⟨rfl,rfl⟩,trivial⟩|refine qav (fun env=>?_) ?_|refine qav ?_ ?_|refine wd m5 ?_|refine zqh ?_|(apply TO.store zaf;(iterate 6 exact rfl);exact leB;exact rfl;(show _+6≤(zey _).length;rw[zlM];omega);exact st4 (zlN e xs w oA))|refine wk ?_|exact wkc|refine wk2 ?_ ?_|intro hc)
   done
  refine yg m6 ?_;refine zac.next (some (t,m,k+1,xs.set w e,j6)) ?_ ?_ ?_ ?_
  ·exact⟨b6,q1,by show 1≤k+1;omega,by rw[qcs];exact q2,q4,q5,q6,hr⟩
  ·exact q7
  ·exact⟨rfl,rfl,rfl,rfl,rfl,trivial⟩
  ·exact rfl
def ExGK(l:List Tok)(n:Int)(es:List En)(i:Nat)(r:PR Ex):G->Prop
 | .expr=>ExK l n es 115 [] i (i+1) r
 | .level k=>k≤6->ExK l n es 149 [.i k] i (i+1) r
 | .unary=>ExK l n es 177 [] i (i+1) r
 | .prim=>ExK l n es 195 [] i (i+1) r
theorem pFK(l:List Tok)(n:Int)(es:List En)(hk:TkOk l)(hes:EsOk es):∀(m:Nat) (g:G) (i:Nat),i≤l.length->ExGK l n es i (pF (rdr l es) m g i) g
 | 0,g,i,_=>by
   cases g
   case level k=>intro _ x j h;cases h
   all_goals(intro x j h;cases h)
 | m+1,g,i,hi=>by
   have ih:=pFK l n es hk hes m;have hl:=hk.len;cases g with
   | expr=>
     show ExK _ _ _ _ _ _ _ _;unfold pF;exact zAF l n es i hl hi (fe:=pF (rdr l es) m .expr) (ih (.level 0) i hi oB) fun j h=>ih .expr j h
   | level k=>
     show k≤6->ExK _ _ _ _ _ _ _ _;intro h6;unfold pF;by_cases h2:k=2
     ·subst h2;rw[oG rfl];exact zxI l n es i hl hi (fun h=>ih (.level 2) (i+1) h oB) (ih (.level 3) i hi oB)
     rw[oH h2];by_cases h7:k=6
     ·subst h7;rw[oG rfl];exact zxJ l n es i (ih .unary i hi)
     rw[oH h7];exact zxK l n es i k hl hi hk.short h2 h7 oA (f:=pF (rdr l es) m (.level (k+1))) (fun j h=>ih (.level (k+1)) j h oA) fun j h=>zcZ m _ h
   | unary=>
     show ExK _ _ _ _ _ _ _ _;unfold pF;exact zAn l n es i hl hi hes (fun h=>ih .unary (i+1) h) (ih .prim i hi)
   | prim=>
     show ExK _ _ _ _ _ _ _ _;unfold pF;exact zBa l n es (zzx l n es hk hes) (zAw l n es hl) i hi hk hes (f:=pF (rdr l es) m .expr) (g:=pF (rdr l es) m .prim) (fun j h=>ih .expr j h) (fun j h=>ih .prim j h) (fun j h=>zcZ m _ h) fun j h=>zcZ m _ h
theorem zoR(l:List Tok)(n:Int)(es:List En)(hk:TkOk l)(hes:EsOk es)(i:Nat)(hi:i≤l.length):ExK l n es 115 [] i (i+1) ((rdr l es).expr i):=pFK l n es hk hes _ .expr i hi
abbrev noDB:Blk:=.cells [.t (.v (str [])),.t (.v (.int .i64 0)),.t (.v (.slice none 0 0))]
theorem zci{n most i:Nat}{u:Unit}(h:limR n most i= .ok u j):n<most/\j=i:=by
 unfold limR at h;split at h
 ·cases h
 ·cases h;exact⟨oA,rfl⟩
theorem zkw(fid:FuncId)(caps:List SV)(hcaps:unders 0 caps=true)(p:En->Bool)(l:List En)(hl:l.length≤1000000000)(hp:∀d,Pure Tryz.prog fid (.t (enT d)::caps) (.b (p d))):
  Pure Tryz.prog 174 [.t (.sl 2 (l.map enT)),.fn fid caps] (.i (idxI p l)):=by
 have hml:(l.map enT).length=l.length:=qac _;refine so Tryz.func174 ?_;repeat' (first|refine wk ?_|exact wkc|refine wk2 ?_ ?_|intro hc)
 refine TR.zaz l.length (fun k=>(l.take k).all (fun x=>!p x)=true) (fun k=>[(0,.t (.sl 2 (l.map enT))),(1,.fn fid caps),(7,.i l.length),(8,.i k)]) (fun _=>[]) rfl (fun k hlt ha=>?_) (fun ha=>?_) ⟨rfl,rfl,by rw[<-hml];rfl,rfl,trivial⟩
 ·have hx:=zbc enT hlt;have htk:=zbg hlt;have hat:=zfx p l k hlt ha;have hd:=hp l[k];generalize l[k]=d at hx htk hat hd;have hu:unders 0 (.t (enT d)::caps)=true:=by simp[unders,SV.under,hcaps]
  repeat' (first|refine wk ?_|exact wkc|refine wk2 ?_ ?_|(apply TO.zgs hd;(iterate 3 exact rfl);exact Les.refl _;exact hu;exact rfl)|intro hc)
  ·rw[hat hc];exact wkr
  ·exact zwfm
 ·exact zwev
theorem zh4(d:En)(nm:Str):Pure Tryz.prog 175 [.t (enT d),.cp [.s nm] 0] (.b (d.name == nm)):=by
 have hd:enT d= .ag [.s d.name,.sl 1 (d.tags.map T.s)]:=rfl;rw[hd];refine so Tryz.func175 ?_;repeat' (first|refine wu ?_|exact wkc|refine wk2 ?_ ?_|intro hc)
 all_goals try(refine RetK.pure rfl ?_ rfl;exact Le.of_eq (by simp_all [pack,enT] <;> omega))
theorem zjw(s:Str):∀(l:List En) (k:Nat),(idxI (fun d=>d.name == s) l= -1/\zfk s k l=none)\/∃j:Nat,j<l.length/\idxI (fun d=>d.name == s) l=j/\zfk s k l=some (k+j)
 | [],_=>.inl ⟨rfl,rfl⟩
 | d::l,k=>by
   unfold idxI zfk;by_cases hd:d.name=s
   ·exact zweq
   ·rw[oH hd,oH (by simpa using hd)];rcases zjw s l (k+1)with ⟨h1,h2⟩|⟨j,h1,h2,h3⟩
    ·rw[h1];exact .inl ⟨rfl,h2⟩
    ·exact zwdm
theorem zud{R:Rd}:∀ {m:Nat} {a:List OnC} {i:Nat},R.isAt i [119,104,101,110]=false->R.clk m a i= .ok a i
 | 0,_,_,_=>rfl
 | m+1,a,i,h=>by rw[Rd.clk,h,oH oB]
abbrev vD (d:Decl):SV:=.t (zak d)
abbrev deH (l:List Tok)(n:Int)(es:List En)(s:Str)(tv:Int)(j:Nat)(x:List T)(k:Nat):Heap:=[rdB l n es j,noDB,.cells [.t (.s s),.i tv,.sl 3 x 3],.tail k]
theorem zAD(l:List Tok)(n:Int)(es:List En)(hk:TkOk l)(hes:EsOk es)(i:Nat)(hi:i≤l.length):RdK l n es 148 [] i (i+1) ((rdr l es).decl i) vD:=by
 refine .of zrM hi fun x jx hr _ _=>?_
 have hl:=hk.len;have hel:=hes.len;unfold Rd.decl at hr;obtain⟨s,j1,_,m1,_,b1,hr⟩:=(idK l n es i hl hi).get hr;obtain⟨_,j2,_,m2,_,b2,hr⟩:=(zco l n es j1 [[58]] hl b1 oB).get hr;obtain⟨tv,j3,hty,hr⟩:=zjm hr;have t1:=zay l n es j2 [98,111,111,108] hl b2;have t2:=zay l n es j2 [105,110,116] hl b2;have hlt1:=@zal (rdr l es) j2 [98,111,111,108];have hlt2:=@zal (rdr l es) j2 [105,110,116];rw[zau]at hlt1 hlt2;refine so Tryz.func148 ?_;repeat' (first|refine wkb ?_|refine zqi ?_|refine wd m1 ?_|refine wk ?_|exact wkc|refine wk2 ?_ ?_|intro hc)
 repeat' (first|refine wz ?_|refine wd m2 ?_|exact wkc|refine wk2 ?_ ?_|intro hc)
 refine TO.zdg 3 2 2 rfl rfl rfl ?_;apply zzg (E:=fun _:Unit=>[(0,.ref 0 0),(3,.ref 2 0),(2,.ref 1 0)]) (H:=fun _=>deH l n es s tv.1 j3 [] 0) (I:=fun _=>j3≤l.length)
 ·intro key;unfold Rd.typ at hty;split at hty
  ·rename_i h1;rw[h1,oG rfl]at t1;cases hty;refine yg t1 ?_;exact zxB key () (hlt1 h1)
  rename_i h1;rw[qaR.2 h1,oH oB]at t1;split at hty
  ·rename_i h2;rw[h2,oG rfl]at t2;cases hty;repeat' (first|refine wz ?_|refine wd t1 ?_|refine wd t2 ?_|exact wkc|refine wk2 ?_ ?_|intro hc)
   exact zxB key () (hlt2 h2)
  rename_i h2;rw[qaR.2 h2,oH oB]at t2;obtain⟨s2,j4,_,m3,b3,b4,hty⟩:=(idK l n es j2 hl b2).get hty;have hix:=zkw 175 [.cp [.s s2] 0] rfl (fun u=>u.name == s2) es oA (fun u=>zh4 u s2);rcases zjw s2 es 0 with ⟨e1,e2⟩|⟨kq,e1,e2,e3⟩
  ·simp only[show(rdr l es).es=es from rfl,e2]at hty;cases hty
  ·rw[e2]at hix;simp only[show(rdr l es).es=es from rfl,e3,qaV]at hty;have htv:(toI ((3+kq:Nat):Int)).1=3+(kq:Int):=by rw[zdN oA];omega
   injection hty with h3 h4
   rw[h3]at htv;subst h4;rw[htv]at key;repeat' (first|refine wz ?_|refine wd t1 ?_|refine wd t2 ?_|refine wd m3 ?_|refine wv hix ?_|exact wkc|refine wk2 ?_ ?_|intro hc)
   exact zxB key () b4
 ·intro _ b3;clear hty t1 t2 hlt1 hlt2 m1 m2
  refine TR.zbk (ι:=Nat×Nat×List OnC) (fun y=>y.2.1≤l.length/\l.length-y.2.1≤y.1/\y.2.2.length≤4/\(((rdr l es).clk y.1 y.2.2 y.2.1).bind fun l2 j=>(.ok ⟨s,tv,l2⟩ j:PR Decl))= .ok x jx) (fun y=>l.length-y.2.1) (fun _=>[(0,.ref 0 0),(3,.ref 2 0),(2,.ref 1 0)]) (fun y=>deH l n es s tv.1 y.2.1 (y.2.2.map onT) (y.2.2.map onT).length) ((rdr l es).K.length,j3,[])
   ⟨b3,by rw[zau];show l.length-j3≤l.length;omega,by show 0≤4;omega,hr⟩ ⟨rfl,rfl,rfl,trivial⟩ rfl ?_
  clear hr b3;rintro⟨m,j,xs⟩ ⟨q2,q3,q4,hr⟩;replace q2:j≤l.length:=q2;replace q3:l.length-j≤m:=q3;replace q4:xs.length≤4:=q4;replace hr:(((rdr l es).clk m xs j).bind fun l2 j=>(.ok ⟨s,tv,l2⟩ j:PR Decl))= .ok x jx:=hr;have hml:(xs.map onT).length=xs.length:=qac _;have t3:=zbp l n es j [119,104,101,110] hl;cases hw:(rdr l es).isAt j [119,104,101,110] with
  | false=>
    rw[hw]at t3;rw[zud hw]at hr;cases hr;repeat' (first|refine wz ?_|refine wd t3 ?_|refine zac.exit ?_|exact wkc|refine wk2 ?_ ?_|intro hc)
    refine ya ?_;exact rdO rfl leX
  | true=>
    rw[hw]at t3;have hlt:=zal hw;rw[zau]at hlt;obtain⟨m,rfl⟩:∃m',m=m'+1:=⟨m-1,oA⟩;rw[Rd.clk,oG hw]at hr;simp only[zfK]at hr;obtain⟨_,j4,q5,m3,_,b4,hr⟩:=(limK l n es j (xs.map onT).length xs.length 4 hl q2 hml).get hr;obtain⟨hlt4,e4⟩:=zci q5;replace e4:=e4.symm;subst e4;obtain⟨o,j5,_,m4,b5,b6,hr⟩:=(zzY l n es (j+1) hl hlt hes).get hr;refine wk ?_;repeat' (first|refine wz ?_|refine wd t3 ?_|refine wd m3 ?_|exact wkc|refine wk2 ?_ ?_|intro hc)
    refine rgY 3 m4 [(.ref 2 2,0,1),(.sl 3 (xs.map onT) 3,0,1),(.ref 0 0,0,1),(vO o,1,0),(.t (.sl 3 [onT o]),1,1),(.sl 3 (xs.map onT++[onT o]) 3,1,0),(.ref 2 2,0,2),(.t (.v undef),1,0)] [deH l n es s tv.1 (j+1) (xs.map onT) (xs.map onT).length,deH l n es s tv.1 j5 (xs.map onT) (xs.map onT).length,deH l n es s tv.1 j5 (xs.map onT) ((xs.map onT).length+1),deH l n es s tv.1 j5 (xs.map onT++[onT o]) ((xs.map onT).length+1)] ?_;refine ya ?_;refine zac.next (m,j5,xs++[o]) ⟨b6,?_,?_,hr⟩ ?_ ⟨rfl,rfl,rfl,trivial⟩ ?_
    ·show l.length-j5≤m;omega
    ·show(xs++[o]).length≤4;rw[qab];simp only[qae,qal];omega
    ·show l.length-j5<l.length-j;omega
    ·show _=deH l n es s tv.1 j5 ((xs++[o]).map onT) ((xs++[o]).map onT).length;exact zweu
abbrev uV:SV:=.t (.v undef)
abbrev vDs (l:List Decl):SV:=.t (.sl 3 (l.map zak))
theorem zrO (l:List Tok) (n:Int) (es:List En) (hk:TkOk l) (hes:EsOk es) (i:Nat) (hi:i≤l.length) (most:Nat) (op:Bool) (hm:most≤1000):RdK l n es 113 [.i most,.b op] i i ((rdr l es).decls most op ((rdr l es).K.length+1) [] i) vDs:=by
 refine .of (fun h=>zfT _ [] h) hi fun x jx hr _ _=>?_
 have hl:=hk.len;have hml0:(l.map tokT).length=l.length:=qac _;refine so Tryz.func113 ?_;repeat' (first|refine wkb ?_|fail)
 refine TR.tail 3 7 rfl ?_
 refine TR.zbk (ι:=Nat×Nat×List Decl) (fun y=>y.2.1≤l.length/\l.length-y.2.1<y.1/\y.2.2.length≤y.2.1/\(rdr l es).decls most op y.1 y.2.2 y.2.1= .ok x jx) (fun y=>l.length-y.2.1) (fun y=>[(0,.ref 0 0),(1,.i most),(2,.b op),(7,.sl 3 (y.2.2.map zak) 1)]) (fun y=>[rdB l n es y.2.1,.tail (y.2.2.map zak).length]) ((rdr l es).K.length+1,i,[])
  ⟨hi,by rw[zau];show l.length-i<l.length+1;omega,by show 0≤i;omega,hr⟩ ⟨rfl,rfl,rfl,rfl,trivial⟩ rfl ?_
 clear hr;rintro⟨m,j,xs⟩ ⟨q2,q3,q4,hr⟩;replace q2:j≤l.length:=q2;replace q3:l.length-j<m:=q3;replace q4:xs.length≤j:=q4;replace hr:(rdr l es).decls most op m xs j= .ok x jx:=hr;have hml:(xs.map zak).length=xs.length:=qac _;obtain⟨m,rfl⟩:∃m',m=m'+1:=⟨m-1,oA⟩;rw[Rd.decls,Rd.zkD]at hr;have t1:=zbT l n es j 1 hl;split at hr
 ·rename_i h1;rw[h1]at t1;obtain⟨_,j3,q5,m3,_,b3,hr⟩:=(limK l n es j (xs.map zak).length xs.length most hl q2 hml).get hr;obtain⟨hlt4,e4⟩:=zci q5;replace e4:=e4.symm;subst e4;obtain⟨d,k,_,m4,b4,b5,hr⟩:=(zAD l n es hk hes j q2).get hr;have t5:=zbp l n es k [59] hl;refine wk ?_;repeat' (first|refine wz ?_|refine wd t1 ?_|refine wd m3 ?_|refine wd m4 ?_|refine zqb ?_|exact wkc|intro hc|refine wk2 ?_ ?_|fail)
  cases hb:(rdr l es).isAt k [59] with
  | false=>
    rw[hb]at t5;rw[oG (.inl hb)]at hr;refine rg1 t5 [.ref 0 0,.b false,.b true,.b true,uV,uV,uV,uV,uV,uV,uV,uV,uV,uV,uV,uV,uV,uV,uV,uV,uV,uV,uV,uV,uV,uV,uV,uV,uV,uV,uV,uV,uV,.b true] ?_;cases hr;refine ya ?_;refine rdO rfl ?_;unfold vDs;rw[qaw,qaf,qaD]
    exact leX
  | true=>
  have hltb:=zal hb;rw[zau]at hltb;rw[hb]at t5;cases op with
  | false=>
    refine rg1 t5 [.ref 0 0,.b true,.b false,.b false,.b false,.b false,uV,uV,uV,uV,uV,uV,uV,uV,uV,uV,uV,uV,uV,uV,uV,uV,uV,uV,uV,uV,uV,uV,uV,uV,uV,uV,.b false,.b false] ?_;rw[oH (by rw[hb];simp)]at hr;repeat' (first|refine wz ?_|exact wkc|refine wk2 ?_ ?_|intro hc)
    refine zac.next (m,k+1,xs++[d]) ⟨hltb,?_,?_,hr⟩ ?_ ⟨rfl,rfl,rfl,?_,trivial⟩ ?_
    ·show l.length-(k+1)<m;omega
    ·exact zwdc
    ·show l.length-(k+1)<l.length-j;omega
    ·exact zwde
    ·exact zwbx
  | true=>
  have hkk:(rdr l es).kind (k+1) 1=match l[k+1]? with|some t=>decide (t.1=1)|none=>false:=by
   unfold Rd.kind;simp only[qan];cases l[k+1]? <;> rfl
  by_cases hlt:k+1<l.length
  ·have hx:=zdR hlt;have hx':(l.map tokT)[((k:Int)+1).toNat]?=some (.ag [T.i l[k+1].1,.s l[k+1].2.1,T.i l[k+1].2.2]):=by rw[show((k:Int)+1).toNat=k+1 by omega];exact hx
   rw[qad hlt]at hkk;simp only at hkk;generalize l[k+1]=t at*;by_cases h2:t.1=1
   ·rw[decide_eq_true h2]at hkk;refine rg1 t5 [.ref 0 0,.b true,.b false,.b false,.b true,.b true,.ref 0 0,.ref 0 0,.ref 0 2,.i k,.i ((k:Int)+1),.ref 0 0,.ref 0 0,.ref 0 0,.t (.sl 3 (l.map tokT)),.i (l.map tokT).length,.b false,.b false,.ref 0 0,.ref 0 0,.ref 0 0,.t (.sl 3 (l.map tokT)),.ref 0 0,.ref 0 0,.ref 0 2,.i k,.i ((k:Int)+1),.cp [T.i t.1,.s t.2.1,T.i t.2.2] 0,.cp [T.i t.1,.s t.2.1,T.i t.2.2] 0,.i t.1,.b false,.b false,.b false,.b false] ?_;rw[oH (by rw[hb,hkk];simp)]at hr;repeat' (first|refine wz ?_|exact wkc|refine wk2 ?_ ?_|intro hc)
    refine zac.next (m,k+1,xs++[d]) ⟨hltb,?_,?_,hr⟩ ?_ ⟨rfl,rfl,rfl,?_,trivial⟩ ?_
    ·show l.length-(k+1)<m;omega
    ·exact zwdc
    ·show l.length-(k+1)<l.length-j;omega
    ·exact zwde
    ·exact zwbx
   ·rw[decide_eq_false h2]at hkk;rw[oG (.inr ⟨rfl,hkk⟩)]at hr;refine rg1 t5 [.ref 0 0,.b true,.b false,.b false,.b true,.b true,.ref 0 0,.ref 0 0,.ref 0 2,.i k,.i ((k:Int)+1),.ref 0 0,.ref 0 0,.ref 0 0,.t (.sl 3 (l.map tokT)),.i (l.map tokT).length,.b false,.b false,.ref 0 0,.ref 0 0,.ref 0 0,.t (.sl 3 (l.map tokT)),.ref 0 0,.ref 0 0,.ref 0 2,.i k,.i ((k:Int)+1),.cp [T.i t.1,.s t.2.1,T.i t.2.2] 0,.cp [T.i t.1,.s t.2.1,T.i t.2.2] 0,.i t.1,.b true,.b true,.b true,.b true] ?_;exact zwcr
  ·rw[qa8 oA]at hkk;simp only at hkk;rw[oG (.inr ⟨rfl,hkk⟩)]at hr;refine rg1 t5 [.ref 0 0,.b true,.b false,.b false,.b true,.b true,.ref 0 0,.ref 0 0,.ref 0 2,.i k,.i ((k:Int)+1),.ref 0 0,.ref 0 0,.ref 0 0,.t (.sl 3 (l.map tokT)),.i (l.map tokT).length,.b true,.b true,uV,uV,uV,uV,uV,uV,uV,uV,uV,uV,uV,uV,uV,.b true,.b true,.b true] ?_;exact zwcr
 ·rename_i h1;have hid:(rdr l es).decl j= .er j 5:=by unfold Rd.decl Rd.id;rw[oH h1];rfl
  rw[hid]at hr;cases hr
theorem zsv(l:List Tok)(n:Int)(es:List En)(hk:TkOk l)(hes:EsOk es)(i:Nat)(hi:i≤l.length):RdK l n es 114 [] i i ((rdr l es).locals i) vDs:=by
 refine .of zij hi fun x jx hr _ _=>?_
 have hl:=hk.len;have t1:=zay l n es i [118,97,114] hl hi;unfold Rd.locals at hr;refine so Tryz.func114 ?_;split at hr
 ·rename_i h1;rw[h1,oG rfl]at t1;have hlt:=zal h1;rw[zau]at hlt;obtain⟨L,j,_,m1,_,b1,hr⟩:=(zrO l n es hk hes (i+1) hlt 256 true oB).get hr;obtain⟨_,k,_,m2,_,b2,hr⟩:=(zco l n es j [[59]] hl b1 oB).get hr;cases hr;repeat' (first|refine wz ?_|refine wd t1 ?_|refine wd m1 ?_|refine wd m2 ?_|exact wkc|refine wk2 ?_ ?_|intro hc)
  refine ya ?_;exact rdO rfl leX
 ·rename_i h1;rw[qaR.2 h1,oH oB]at t1;cases hr;repeat' (first|refine wz ?_|refine wd t1 ?_|exact wkc|refine wk2 ?_ ?_|intro hc)
  refine ya ?_;exact rdO rfl leX
end Go.Proofs.YtdicfgideclbdaaGreatDoor
