import Derived.Test.YtdicfgideclbdaaGreatDoorAk9
set_option maxHeartbeats 64000000
set_option linter.all false
namespace Go.Proofs.YtdicfgideclbdaaGreatDoor
open Go Go.TL
attribute [local irreducible] TR TO Then zaj RetK Sound zac Kf GG zaQ
def inW(v:Int):Bool:=decide (-32768≤v) && decide (v≤32767)
theorem zuB(v:Int):Pure Tryz.prog 97 [.i v] (.b (inW v)):=by
 refine so Tryz.func97 ?_;repeat' (first|refine wk ?_|exact wkc|refine wk2 ?_ ?_|intro hc)
 all_goals try(refine RetK.pure rfl ?_ rfl;exact Le.of_eq (by simp_all [pack,inW] <;> omega))
abbrev ensT (es:List En):T:=.sl 2 (es.map enT)
def zaL(es:List En)(t:Int):En×Bool:=
 if 3≤t/\t-3<es.length then(match es[(t-3).toNat]? with|some e=>(e,true)|none=>(⟨[],[]⟩,false)) else(⟨[],[]⟩,false)
def zbf(es:List En)(t:Int):Int:=
 if t=1 then 2 else if t=2 then 65536 else((zaL es t).1.tags.length:Int)
def hasT(es:List En)(t v:Int):Bool:=if t=2 then inW v else decide (0≤v) && decide (v<zbf es t)
theorem zjx(es:List En)(t:I64):Pure Tryz.prog 138 [.t (ensT es),.n t] (.tup [.t (enT (zaL es t.1).1),.b (zaL es t.1).2]):=by
 obtain⟨t,ht1,ht2⟩:=t;dsimp only[SV.n];refine so Tryz.func138 ?_;have hl:(es.map enT).length=es.length:=qac _;by_cases h:3≤t/\t-3<es.length
 ·obtain⟨h1,h2⟩:=h;have hlt:(t-3).toNat<es.length:=oA
  have hx:=zbc enT hlt;refine yd ?_;simp only[zaL,h1,h2,hlt,enT,and_self,if_true,qad];exact wkr
 ·repeat' (first|refine wk ?_|exact wkc|refine wk2 ?_ ?_|intro hc)
  all_goals
   simp only[zaL,h,enT,if_false];exact wkr
theorem zfd(es:List En)(t:I64):Pure Tryz.prog 98 [.t (ensT es),.n t] (.i (zbf es t.1)):=by
 refine so Tryz.func98 ?_;repeat' (first|refine wk ?_|exact wkc|refine wk2 ?_ ?_|refine wv (zjx es t) ?_|intro hc)
 ·refine RetK.pure rfl (Le.of_eq ?_) rfl;simp[pack,zbf,hc]
 ·refine RetK.pure rfl (Le.of_eq ?_) rfl;simp[pack,zbf,hc]
 ·refine RetK.pure rfl (Le.of_eq ?_) rfl;simp[pack,zbf, *]
theorem zfY(es:List En)(t v:I64):Pure Tryz.prog 44 [.t (ensT es),.n t,.n v] (.b (hasT es t.1 v.1)):=by
 refine so Tryz.func44 ?_;repeat' (first|refine wk ?_|exact wkc|refine wk2 ?_ ?_|refine wv (zuB v.1) ?_|refine wv (zfd es t) ?_|intro hc)
 all_goals
  refine RetK.pure rfl (Le.of_eq ?_) rfl
  simp_all [pack,hasT] <;> omega
end Go.Proofs.YtdicfgideclbdaaGreatDoor
