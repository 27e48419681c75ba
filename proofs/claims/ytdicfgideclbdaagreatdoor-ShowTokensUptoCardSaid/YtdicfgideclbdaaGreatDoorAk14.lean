import Derived.Test.YtdicfgideclbdaaGreatDoorAk13
set_option maxHeartbeats 64000000
set_option linter.all false
namespace Go.Proofs.YtdicfgideclbdaaGreatDoor
open Go Go.TL
attribute [local irreducible] TR TO Then zaj RetK Sound zac Kf GG zaQ
def insI(es:List En)(k t v n:Int):Int:=
 if k=1\/k=8\/k=9 then(if zbf es t=0 then 10 else if k≠9/\hasT es t v=false then 14 else if k=9/\n≠zbf es t then 9 else 0) else 0
def insX(es:List En)(x:Ex):Int:=insI es x.kind.1 x.t.1 x.v.1 x.args.length
def zbi(es:List En)(e:Ex):Int:=if zeC e=0 then zad (insX es) (flat e) else zeC e
theorem zn6(es:List En)(t:Int):0≤zbf es t:=by
 unfold zbf;repeat' split
 all_goals omega
theorem zqy(es:List En)(x:Ex):Pure Tryz.prog 90 [.t (ensT es),.t (.ag (exC x))] (.i (insX es x)):=by
 have hs:=zfd es x.t;have hh:=zfY es x.t x.v;have hnn:=zn6 es x.t.1;have hcx:exC x=[T.n x.kind,T.n x.op,T.n x.t,T.n x.v,.s x.name,.sl 6 (x.args.map exT)]:=rfl;have hmx:(x.args.map exT).length=x.args.length:=qac _;rw[hcx];unfold insX insI;generalize zbf es x.t.1=sz at*;generalize hasT es x.t.1 x.v.1=hb at*;refine so Tryz.func90 ?_;repeat' (first|refine wu ?_|exact wkc|refine wk2 ?_ ?_|refine wv hs ?_|refine wb hh ?_ ?_|intro hc)
 all_goals
  clear hs hh hcx;refine RetK.pure rfl (Le.of_eq ?_) rfl;refine congrArg (fun z=>SV.t (T.v (Value.int IntKind.i64 z))) ?_;grind
theorem zc6(es:List En)(e:Ex)(h:wEx e≤1000000000):Pure Tryz.prog 42 [.t (ensT es),.t (exT e)] (.i (zbi es e)):=by
 have hck:=zlA e h;have hs:=zdQ e;rw[zan]at*;have hc0:exC e=[T.n e.kind,T.n e.op,T.n e.t,T.n e.v,.s e.name,.sl 6 (e.args.map exT)]:=rfl;rw[hc0]at hs hck⊢;unfold zbi;refine so Tryz.func42 ?_;by_cases h1:zeC e=0
 ·rw[oG h1];repeat' (first|refine wkb ?_|refine wk ?_|exact wkc|refine wk2 ?_ ?_|refine wv hck ?_|refine wv hs ?_|intro hc)
  refine TR.zeV e (fun _=>[.cells [.i 0]]) (errF (insX es)) rfl h rfl rfl rfl (fun _=>⟨rfl,rfl⟩) (fun pre x=>?_) (fun fn pre x post hw=>?_) (fun fn=>?_)
  ·exact zwdt
  ·have ho:=zqy es x;exact zwg
  ·rw[zkP];by_cases h2:zad (insX es) (flat e)=0
   ·rw[oG h2,h2];refine ya ?_;exact wkr
   ·rw[oH h2];simp only[];refine ya ?_;exact wkr
 ·rw[oH h1];repeat' (first|refine wkb ?_|refine wk ?_|exact wkc|refine wk2 ?_ ?_|refine wv hck ?_|refine wv hs ?_|intro hc)
  exact wkr
end Go.Proofs.YtdicfgideclbdaaGreatDoor
