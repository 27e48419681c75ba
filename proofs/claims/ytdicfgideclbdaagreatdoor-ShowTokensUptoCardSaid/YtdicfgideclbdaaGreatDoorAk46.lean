import Derived.Test.YtdicfgideclbdaaGreatDoorAk45
set_option maxHeartbeats 64000000
set_option linter.all false
namespace Go.Proofs.YtdicfgideclbdaaGreatDoor
open Go Go.TL
attribute [local irreducible] TR TO Then zaj RetK Sound zac Kf GG zaQ
variable {cargs:List SV}{x:Str}
section
section rules
variable {P:Program}{n:Nat}{env:Env}{H:Heap}{K:TK}{all:Array Oper}{rest:List Oper}{d:Nat}{ty:TypeId}{pos:String}{aft:Array Edge}
theorem TO.zAy{a b:Int}{cs:List SV}{f:Operand}{fid:FuncId}{caps:List SV}{args:Array Operand}{ts:Array TypeId}{vs:List SV}
  (hs:Sound P fid cargs [] fun r H'=>r= .ret (.tup [.ref 0 0,.i a,.i b])/\H'=[.cells cs])(hd:Nat.ble (d+1) n=true)
  (hf:env.val f=some (.fn fid caps))(ha:env.vals args.toList=some vs)(hl:Les (vs++caps) cargs)(hu:unders 0 cargs=true)(hcs:unders 0 cs=true)
  (k:TO false P n all rest ((d,.tup [.ref H.length 0,.i a,.i b])::env) (H++[.cells cs]) K):
  TO false P n all (⟨some d,.call { callee:=.value f,args:=args,argTypes:=ts },ty,pos,aft,none⟩::rest) env H K:=
 TO.zcm [] hs hd hf ha (by rw[zbs (N:=0) (fun j hj=>oA) _ hu];exact hl) hu (ze7 H) (by simp[SV.ren,rens,names]) (by
  simp only[patch,qaf,qaD,Blk.ren,zj4 _ hcs]) k
end rules
theorem we4{G Q1 Q2:Prop}{f:FuncId}{v pv:SV}{c:Int}{Hc H1:Heap}(hs:Sound Tryz.prog f cargs Hc (Err c v pv H1))(k1:Q1)(k2:Q2)(h:Sound Tryz.prog f cargs Hc (Err c v pv H1)->Hold Q1->Hold Q2->G:=by
  intro hs k1 k2
  (apply TO.zlx [3] hs;(iterate 3 exact rfl);exact zqa;exact rfl;exact Hands.one rfl rfl;(iterate 4 exact rfl);exact k1.p;exact k2.p)):G:=h hs ⟨k1⟩ ⟨k2⟩
theorem zgO{P:Program}{n:Nat}{c:Code}{K KD:TK}{gf:FuncId}{cv:List SV}{env:Env}{H:Heap}(h:TD P n c env H K gf cv KD):zhd P n c K gf cv KD .normal env H:=h
attribute [local irreducible] TD zhd
end
section
variable {R:Rd}
theorem za3{α β:Type}{r:PR α}{f:α->Nat->PR β}{x:β}{j:Nat}(h:r.bind f= .ok x j):∃v k,r= .ok v k/\f v k= .ok x j:=by
 exact zwfo
end
theorem zq0(k:Int)(x:Str)(p:Int):x.length≤(zar (k,x,p)).length:=by
 unfold zar;split
 ·exact zwey
 ·exact qag _
theorem zqJ{w:Str}(h:zdc w=(2,x,0)):w.length≤5:=by
 refine qbE fun hl=>?_
 have h5:decide (5<(w.length:Int))=true:=by simp only[decide_eq_true_eq];omega
 unfold zdc at h;rw[h5,Bool.true_or,oG rfl]at h;have h1:=oJ Prod.fst h;rw[apply_ite Prod.fst]at h1;simp only[ite_self]at h1;exact oI h1 oA
theorem ztA(h:zbQ 2 x):x.length≤5/\∀c∈x,48≤c.toNat/\c.toNat≤57:=by
 rcases h with ⟨c,w,h1,h2,h3,h4⟩|⟨c,w,h1,h2,h3⟩|⟨h1,_⟩|⟨h1,_⟩
 ·rcases(zkK h4).1 with h|h <;> exact oI h oB
 ·refine⟨zqJ h3,fun d hd=>?_⟩
  have:=h2 d hd
  unfold digit at this;simp only[qar,decide_eq_true_eq]at this;omega
 ·exact oI h1 oB
 ·exact oI h1 oB
theorem zyc(s:Str):TkOk (scan s).1:=by
 refine⟨by have:=zqT s;omega,fun t ht=>?_,fun t ht h2=>?_⟩
 all_goals
  by_cases hs:65536<s.length
  ·rw[scan,oG hs]at ht;cases ht
  rw[zeW oA]at ht;obtain⟨a,ha,rfl⟩:=qaL.1 ht;obtain⟨h3,h4,h5,h6⟩:=zst (s.length+1) s
 ·have h7:(zar (a.1,a.2.1,0)).length≤((lexF (s.length+1) s).1.map fun a=>(zar (a.1,a.2.1,0)).length).sum:=by
   have:∀(l:List (Int×Str×Nat)),a∈l->(zar (a.1,a.2.1,0)).length≤(l.map fun a=>(zar (a.1,a.2.1,0)).length).sum:=by
    intro l
    induction l with
    | nil=>intro h;cases h
    | cons b l ih=>
      intro h;rw[qaf,qaG];rcases qa5.1 h with rfl|h
      ·omega
      ·have:=ih h;omega
   exact this _ ha
  have h8:=zq0 a.1 a.2.1 0;show a.2.1.length≤_;omega
 ·have:=(h3 a ha).1
  replace h2:a.1=2:=h2;rw[h2]at this;exact ztA this
end Go.Proofs.YtdicfgideclbdaaGreatDoor
