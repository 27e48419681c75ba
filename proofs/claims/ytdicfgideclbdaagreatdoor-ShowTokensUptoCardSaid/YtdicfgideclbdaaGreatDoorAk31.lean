import Derived.Test.YtdicfgideclbdaaGreatDoorAk17
set_option maxHeartbeats 64000000
set_option linter.all false
namespace Go.Proofs.YtdicfgideclbdaaGreatDoor
open Go Go.TL
attribute [local irreducible] TR TO Then zaj RetK Sound zac Kf GG zaQ
theorem ze1:∀(m:Nat) (e:Ex),wEx e≤m->∀(q:Nat),1≤q->q≤1000000->Pure Tryz.prog 86 [.t (.ag (exC e)),.i q] (.i (min (wEx e) q:Nat)):=by
 intro m
 induction m with
 | zero=>intro e he;have:=zcG e;omega
 | succ m ih0=>
   intro e he q hq1 hq2;have hw:=zgk e;have ih:∀x∈e.args,∀(q:Nat),1≤q->q≤1000000->Pure Tryz.prog 86 [.t (.ag (exC x)),.i q] (.i (min (wEx x) q:Nat)):=fun x hx q h1 h2=>ih0 x (by have:=zcS hx;omega) q h1 h2
   clear ih0;rw[hw];generalize hL:e.args=L at ih⊢;have hml:(L.map exT).length=L.length:=qac _;unfold exC;rw[hL];refine so Tryz.func86 ?_;repeat' (first|refine wu ?_|exact wkc|refine wk2 ?_ ?_|intro hc)
   refine TR.zaz L.length (fun k=>k<1+((L.take k).map wEx).sum) (fun k=>[(1,.i q),(2,.cp [T.n e.kind,T.n e.op,T.n e.t,T.n e.v,.s e.name,.sl 6 (L.map exT)] 0),(5,.i (min (1+((L.take k).map wEx).sum) q:Nat)),(6,.i k)]) (fun _=>[]) oC (fun k hlt hk=>?_) (fun hk=>?_) ⟨rfl,rfl,by rw[show min (1+((L.take 0).map wEx).sum) q=1 from oF];rfl,rfl,trivial⟩
   ·have hx:=zeA hlt;have htk:((L.take (k+1)).map wEx).sum=((L.take k).map wEx).sum+wEx L[k]:=by rw[zbg hlt,qaw,qct];simp
    have hle:((L.take k).map wEx).sum≤(L.map wEx).sum:=by
     conv=>rhs;rw[<-qaX k L]
     rw[qaw,qct];omega
    have hwp:=zcG L[k];have hi:=ih L[k] (qak hlt);generalize L[k]=x at hx htk hwp hi;generalize hS:((L.take k).map wEx).sum=S at*;generalize hT:(L.map wEx).sum=W at*;unfold exC at hx hi;by_cases hc0:1+S<q
    ·have hn:min (1+S) q=1+S:=oA
     rw[hn];have hi2:=hi (q-(1+S)) oA oA;rw[show((q-(1+S):Nat):Int)=(q:Int)-((1+S:Nat):Int) from oA]at hi2;have hr:((1+S:Nat):Int)+((min (wEx x) (q-(1+S)):Nat):Int)=((min (1+(S+wEx x)) q:Nat):Int):=oA
     generalize min (wEx x) (q-(1+S))=z at hi2 hr;have hz:z≤1000000:=oA
     refine yb hi2 ?_;exact zac.zaH hlt (by rw[htk];omega) ⟨rfl,rfl,by rw[htk,<-hr];rfl,rfl,trivial⟩
    ·have hn:min (1+S) q=q:=oA
     rw[hn,show min (1+W) q=q from oA];repeat' (first|refine wu ?_|exact wkc|refine wk2 ?_ ?_|intro hc)
     all_goals exact zwbs
   ·rw[qap];repeat' (first|refine wu ?_|exact wkc|refine wk2 ?_ ?_|intro hc)
    all_goals exact zwbs
def i64(k:Int)(h:-9223372036854775808≤k/\k≤9223372036854775807:=by decide):I64:=⟨k,h⟩
end Go.Proofs.YtdicfgideclbdaaGreatDoor
