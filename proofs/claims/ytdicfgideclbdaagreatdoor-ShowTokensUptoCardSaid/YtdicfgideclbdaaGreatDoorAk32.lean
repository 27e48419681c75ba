import Derived.Tactics
import Derived.Tactics2
import Derived.StillTactics
import Derived.Laws.AppendOwn
import Derived.Laws.Runes
import Derived.Laws.CopyRow
import Derived.Laws.Shifts
import Derived.Laws.Rows
import Derived.Laws.BitsLemmas
import Derived.Laws.Tables
import Derived.Laws.NewBlocks
import Derived.Laws.Unary
import Derived.Laws.Strings
import Derived.Laws.NewFold
import Derived.Laws.ShiftsVarLaws
import Derived.Laws.Bits
import Derived.Laws.Alloc2
import Derived.Laws.Bits128
import Derived.Laws.Strings2
import Derived.Laws.Wrap64
import Derived.Laws.ShiftsVar
import Derived.Laws.Closers25
import Derived.Laws.RangeString
import Derived.Laws.Concat
import Derived.Laws.Cells
import Derived.Laws.NewDeep
import Derived.Laws.Pointers
import Derived.Laws.StructEq
import Derived.Laws.Closers25b
import Derived.Laws.StandIn
import Derived.Laws.Bits64b
import Derived.Laws.LoneSync
import Derived.Laws.ByValue
import Derived.Laws.MathBits
import Derived.Laws.Externs
import Derived.Laws.BitsAll
import Derived.Laws.BitsAllLaws
import Derived.Laws.Bits64
import Derived.Laws.OwnMore
import Derived.Laws.Build
import Derived.Laws.ResultCell
import Derived.Laws.Entries
import Derived.Laws.Append
import Derived.Laws.RangeAny
import Derived.Laws.World
import Derived.Laws.Strings3
import Derived.Laws.Sem
import Derived.Laws.Slices
import Derived.Laws.MakeOwn
import Derived.Laws.Small
import Derived.Laws.BytesString
import Derived.Scope
import Derived.FnLit
import Derived.LoopTactic
import Derived.Test.YtdicfgideclbdaaGreatDoorAk25
set_option maxHeartbeats 64000000
set_option linter.all false
namespace Go.Proofs.YtdicfgideclbdaaGreatDoor
open Go Go.TL
attribute [local irreducible] TR TO Then zaj RetK Sound zac Kf GG zaQ
variable {l:List Tok}{es:List En}{K:TK}{k:Nat}{R:Rd}
theorem zsF(l:Str)(c:UInt8):numV (l++[c])=10*numV l+((c.toNat:Int)-48):=by
 unfold numV;rw[qbJ];rfl
theorem zpp:∀(l:Str) (a:Int),0≤a->(∀c∈l,48≤c.toNat/\c.toNat≤57)->0≤l.foldl (fun(n:Int) (c:UInt8)=>10*n+((c.toNat:Int)-48)) a/\l.foldl (fun(n:Int) (c:UInt8)=>10*n+((c.toNat:Int)-48)) a<(a+1)*10 ^ l.length
 | [],a,h,_=>⟨h,by simp only[List.foldl_nil,qal,Int.pow_zero];omega⟩
 | c::l,a,h,hd=>by
   have h1:=hd c oC;have h2:=zpp l (10*a+((c.toNat:Int)-48)) oA fun x hx=>hd x (by simp[hx])
   rw[qb0,qae,Int.pow_succ];refine⟨h2.1,Int.lt_of_lt_of_le h2.2 ?_⟩;rw[Int.mul_comm (10 ^ l.length) 10,<-Int.mul_assoc];exact Int.mul_le_mul_of_nonneg_right oA (Int.pow_nonneg oB)
theorem zjL{l:Str}(h:∀c∈l,48≤c.toNat/\c.toNat≤57):0≤numV l/\numV l<10 ^ l.length:=by
 have:=zpp l 0 oB h
 rw[Int.zero_add,Int.one_mul]at this;exact this
theorem bsz(s:ByteArray):s.data.toList.length=s.size:=by cases s;rfl
theorem pw5{n:Nat}(h:n≤5):(10:Int) ^ n≤100000:=by
 rcases(show n=0\/n=1\/n=2\/n=3\/n=4\/n=5 by omega)with rfl|rfl|rfl|rfl|rfl|rfl <;> decide
set_option maxRecDepth 1000000 in
theorem zmc (s:ByteArray) (hd:∀c∈s.data.toList,48≤c.toNat/\c.toNat≤57) (hs:s.size≤5) (w:World):
  Calls Tryz.prog 201 #[.string s] w fun e w'=>e= .returned (.int .i64 (numV s.data.toList))/\∃pos,w'=w.iter s pos:=by
 go_enter Tryz.func201,Tryz.ntmps201
 go_wp2
 go_loopw [3] (fun n w'=>∃(pos:Nat),w'=w.iter s pos/\n= .int .i64 (numV (s.data.toList.take pos))/\pos≤s.size) (fun _ w'=>s.size-w'.iterPos w.heap.size)
 case atStart=>exact⟨0,rfl,rfl,qaM _⟩
 case round=>
  obtain⟨pos,rfl,rfl,hb⟩:=hrel;by_cases hp:pos<s.size
  ·have hnx:∀ty,(Instr.next (.pointer (some ⟨w.heap.size,0,none⟩)) true ty).run Tryz.prog (w.iter s pos)=_:=fun ty=>run_next_any w s pos ty hp
   go_wp2
   have hl:=bsz s;have hlt:pos<s.data.toList.length:=oA
   have hc:=hd _ (qak hlt);have he:s[pos]'hp=s.data.toList[pos]:=by rw[Array.getElem_toList];rfl
   have hsn:numV (s.data.toList.take (pos+1))=10*numV (s.data.toList.take pos)+((s.data.toList[pos].toNat:Int)-48):=by rw[qaE hlt,zsF]
   have ha:=zjL (l:=s.data.toList.take pos) fun x hx=>hd x (qaS hx)
   have hpw:(10:Int) ^ (s.data.toList.take pos).length≤100000:=pw5 (by rw[qba];omega);rw[decode_ascii s pos hp (by rw[he];omega),he];refine⟨⟨pos+1,rfl,?_,oA⟩,oF⟩;rw[hsn];congr 1;generalize s.data.toList[pos]=c at*;generalize numV (s.data.toList.take pos)=a at*;have hw:∀x:Int,-9223372036854775808≤x->x≤9223372036854775807->RowKit.wrap64 x=x:=fun x h1 h2=>by simp only[RowKit.wrap64];omega
   have hw2:∀x:Int,-2147483648≤x->x≤2147483647->RowKit.wrap32 x=x:=fun x h1 h2=>by simp only[RowKit.wrap32];omega
   simp only;rw[hw2 _ oA oA,hw ((c.toNat:Int)-48) oA oA,hw (10*a) oA oA,hw _ oA oA]
  ·have hnx:∀ty,(Instr.next (.pointer (some ⟨w.heap.size,0,none⟩)) true ty).run Tryz.prog (w.iter s pos)=_:=fun ty=>run_next_end w s pos ty hp
   go_wp2
   go_ret
   rw[qaJ (by rw[bsz];omega)];exact⟨rfl,_,rfl⟩
theorem zf7(s:Str)(hd:∀c∈s,48≤c.toNat/\c.toNat≤57)(hs:s.length≤5):Pure Tryz.prog 201 [.s s] (.i (numV s)):=by
 unfold Go.TL.Pure Go.TL.Sound;refine⟨⟨_,Tryz.func201,oD,rfl⟩,fun m vs h1 h2 h3=>?_⟩;obtain⟨g1,g2⟩:=h3
 match vs,g1,g2 with
 | ⟨[x]⟩,_,g2=>
   have hx:=(g2 0 _ x rfl rfl).v_eq;subst hx;refine Calls.mono (zmc ⟨s.toArray⟩ (by simpa using hd) (by simpa [ByteArray.size]using hs) m.w) ?_;rintro e w' ⟨rfl,pos,rfl⟩;obtain⟨st,hm⟩:=zej h2 (w':=m.w.iter ⟨s.toArray⟩ pos) ⟨rfl,rfl,rfl,by show m.w.heap.size≤(m.w.heap.push _).size;rw[Array.size_push];omega,fun b hb=>by show(m.w.heap.push _)[b]?=m.w.heap[b]?;rw[Array.getElem?_push,oH oA]⟩;exact⟨_,.ret (.i (numV s)),rfl,st,hm,.t _ _ (.v _),rfl,h1⟩
section rules
variable {P:Program}{n:Nat}{env:Env}{H:Heap}{K:TK}{all:Array Oper}{rest:List Oper}{d:Nat}{ty:TypeId}{pos:String}{aft:Array Edge}
theorem TO.zyT{cargs:List SV}{kt vt:TypeId}{es:List (Value×T)}{f:Operand}{fid:FuncId}{caps:List SV}{args:Array Operand}{ts:Array TypeId}{vs:List SV}
  (hs:Sound P fid cargs [] fun r H'=>r= .ret (.mp 0)/\H'=[.map kt vt es])(hd:Nat.ble (d+1) n=true)
  (hf:env.val f=some (.fn fid caps))(ha:env.vals args.toList=some vs)(hl:Les (vs++caps) cargs)(hu:unders 0 cargs=true)
  (k:TO false P n all rest ((d,.mp H.length)::env) (H++[.map kt vt es]) K):
  TO false P n all (⟨some d,.call { callee:=.value f,args:=args,argTypes:=ts },ty,pos,aft,none⟩::rest) env H K:=
 TO.zcm [] hs hd hf ha (by rw[zbs (N:=0) (fun j hj=>oA) _ hu];exact hl) hu (ze7 H) (by simp[SV.ren,names]) (by
  simp only[patch,qaf,qaD,Blk.ren]) k
end rules
theorem rgX(c:Nat){g:Prop}{n:Nat}{env0 envF:Env}{H0 HF:Heap}{id':Nat}{l:List Oper}(t:List (SV×Nat×Nat))(hs:List Heap)
  (hp:zgn Tryz.prog n K c g l.toArray (zaM l.toArray (t.map (·.1)) env0) hs 0 l t hs)(hK:g->K .normal envF HF)
  (hB:(mixB l.toArray ((t.map (·.2)).map fun x=>Nat.blt x.2 x.1) && zjN l.toArray (t.map (·.2)) hs.length)=true:=by dsimp only[List.map,List.length];decide +kernel)(h0:hs[0]?=some H0:=by exact rfl)
  (hc:Nat.blt c l.length=true:=by exact rfl)(hF:hs[(t.filter efX).length]?=some HF:=by exact rfl)(hE:za7 (zaM l.toArray (t.map (·.1)) env0)=some envF:=by exact rfl):
  TR Tryz.prog n (.region id' l.toArray true) env0 H0 K:=TR.znW c t hs hmix hB h0 hp hc hF hE hK
theorem znT(k:Nat)(s:Str):zmf (opsL (k:Int)) s=zir k s:=by
 unfold opsL zir zmf;by_cases h0:k=0
 ·subst h0;rw[oG (show((0:Nat):Int)=0 from rfl),oG (show(0:Nat)=0 from rfl)];simp only[List.find?];repeat' split
  all_goals simp_all
 rw[oH oA,oH h0];by_cases h1:k=1
 ·subst h1;rw[oG (show((1:Nat):Int)=1 from rfl),oG (show(1:Nat)=1 from rfl)];simp only[List.find?];repeat' split
  all_goals simp_all
 rw[oH oA,oH h1];by_cases h3:k=3
 ·subst h3;rw[oG (show((3:Nat):Int)=3 from rfl),oG (show(3:Nat)=3 from rfl)];simp only[List.find?];repeat' split
  all_goals simp_all
 rw[oH oA,oH h3];by_cases h4:k=4
 ·subst h4;rw[oG (show((4:Nat):Int)=4 from rfl),oG (show(4:Nat)=4 from rfl)];simp only[List.find?];repeat' split
  all_goals simp_all
 rw[oH oA,oH h4];simp only[List.find?];repeat' split
 all_goals simp_all
theorem zqO (l:List Tok) (n:Int) (es:List En) (i k:Nat) (hl:l.length≤1000000) (hS:∀t∈l,t.2.1.length≤1000000000):Sound Tryz.prog 178 [.ref 0 0,.i k] [rdB l n es i] (fun r H'=>r= .ret (.tup [.i (((rdr l es).oper k i).getD 0),.b ((rdr l es).oper k i).isSome])/\H'=[rdB l n es i]):=by
 have hml:(l.map tokT).length=l.length:=qac _;have h3:=zbT l n es i 3 hl;have h4:=zbT l n es i 4 hl;have hr:(rdr l es).oper k i=if((rdr l es).kind i 3 || (rdr l es).kind i 4)=true then zir k ((rdr l es).txt i) else none:=rfl
 have hb:=zlq k;have hg:=znT k ((rdr l es).txt i);rw[<-hg]at hr
 have hin:((rdr l es).kind i 3 || (rdr l es).kind i 4)=true->i<l.length:=by
  intro h;unfold Rd.kind at h;simp only[qan]at h;by_cases hi:i<l.length
  ·exact hi
  ·rw[qa8 oA]at h;simp at h
 have ht:∀h:i<l.length,(rdr l es).txt i=l[i].2.1:=by
  intro h;exact zwdx
 generalize (rdr l es).oper k i=o at*;generalize (rdr l es).kind i 3=b3 at*;generalize (rdr l es).kind i 4=b4 at*;generalize (rdr l es).txt i=s at*;clear hg;cases hbb:(b3 || b4) with
 | false=>
   rw[hbb,oH oB]at hr;subst hr;cases b3 with
   | true=>cases hbb
   | false=>
     cases b4 with
     | true=>cases hbb
     | false=>
       refine so Tryz.func178 ?_;refine yf h3 h4 ?_;exact RetK.keep 1 rfl (Le.refl _) rfl rfl rfl rfl rfl ⟨rfl,rfl⟩
 | true=>
   rw[hbb,oG rfl]at hr;have hlt:=hin hbb;have hx:=zdR hlt;have hs':=ht hlt;have hsl:=hS _ (qak hlt);generalize l[i]=t at*;rw[<-hs']at hx hsl;have ok:=zxZ k;generalize opsL (k:Int)=L at*;rcases(show b3=true\/(b3=false/\b4=true) by clear hr h3 h4 hb;cases b3 <;> simp_all)with rfl|⟨rfl,rfl⟩
   all_goals
    refine so Tryz.func178 ?_;repeat' (first|refine wkt ?_|refine wd h3 ?_|refine wd h4 ?_|(apply TO.want;exact rfl)|exact wkc|refine wk2 ?_ ?_|intro hc)
    refine rgX 1 (g:=True) [(.i k,0,1),(.mp 1,1,0),(.ref 0 0,0,1),(.ref 0 0,0,1),(.ref 0 0,0,1),(.t (.sl 3 (l.map tokT)),0,1),(.ref 0 0,0,1),(.ref 0 0,0,1),(.ref 0 2,0,1),(.i i,0,1),(.cp [T.i t.1,.s s,T.i t.2.2] 0,0,1),(.cp [T.i t.1,.s s,T.i t.2.2] 1,0,1),(.s s,0,1),(.tup [.i (o.getD 0),.b o.isSome],1,1),(.tup [.i (o.getD 0),.b o.isSome],0,1),(.i (o.getD 0),0,1),(.b o.isSome,0,1),(.i (o.getD 0),0,1),(.b o.isSome,0,1)] [[rdB l n es i],[rdB l n es i,opB L]] ?_ (fun _=>?_)
    ·repeat' (first|refine wkt ?_|refine wd h1 ?_|exact trivial|exact⟨⟨rfl,rfl⟩,trivial⟩|refine qav (fun env=>?_) ?_|refine qav ?_ ?_|refine wk ?_|exact wkc|refine wk2 ?_ ?_|(apply TO.zyT hb;(iterate 3 exact rfl);exact⟨Le.refl _,trivial⟩;exact rfl)|(refine TO.zmf (id:=1) (r:=o) rfl rfl rfl rfl ok hsl hr.symm ?_)|intro hc)
     done
    ·exact zweg
theorem zuQ{i:Nat}{op:Int}(h:(rdr l es).oper k i=some op):i<l.length:=by
 have:=zsP h
 rw[zau]at this;exact this
theorem zuS{f:Nat->PR Ex}:∀ {m:Nat} {a:Ex} {i:Nat},R.oper k i=none->R.ops f k m a i= .ok a i
 | 0,_,_,_=>rfl
 | m+1,a,i,h=>by rw[Rd.ops,h]
theorem zsN{s:Str}{op:Int}(h:zir k s=some op):0≤op/\op≤100:=by
 unfold zir at h;repeat' split at h
 all_goals first|(cases h;exact⟨oB,oB⟩)|cases h
theorem zuR{i:Nat}{op:Int}(h:R.oper k i=some op):0≤op/\op≤100:=by
 unfold Rd.oper at h;split at h
 ·exact zsN h
 ·cases h
abbrev exZ:Blk:=.cells [.t (.v (.int .i64 0)),.t (.v (.int .i64 0)),.t (.v (.int .i64 0)),.t (.v (.int .i64 0)),.t (.v (str [])),.t (.v (.slice none 0 0))]
theorem zq6:∀ {m:Nat} {a:Ex} {i:Nat},R.isAt i [119,104,101,110]=false->R.whens m a i= .ok a i
 | 0,_,_,_=>rfl
 | m+1,a,i,h=>by rw[Rd.whens,h,oH oB]
structure TkOk (l:List Tok):Prop where
 len:l.length≤1000000
 short:∀t∈l,t.2.1.length≤1000000000
 num:∀t∈l,t.1=2->t.2.1.length≤5/\∀c∈t.2.1,48≤c.toNat/\c.toNat≤57
theorem zk7{i:Nat}(h:i<l.length):(rdr l es).txt i=l[i].2.1:=by
 exact zwdx
theorem zhw{i:Nat}{k:Int}(hk:(rdr l es).kind i k=true):∃h:i<l.length,l[i].1=k:=by
 have h:=zdJ hk;rw[zau]at h;refine⟨h,?_⟩;unfold Rd.kind at hk;simpa only[qan,qad h,qaT,decide_eq_true_eq]using hk
theorem TO.zAZ{q:Bool}{n:Nat}{env:Env}{H:Heap}{all:Array Oper}{rest:List Oper}{d:Nat}{ty t:TypeId}{pos:String}{aft:Array Edge}{x:Operand}{b:Int}(hd:Nat.ble (d+1) n=true)(hx:env.val x=some (.i b))(h1:-9223372036854775808≤-b)(h2:-b≤9223372036854775807)
  (k:TO q Tryz.prog n all rest ((d,.i (-b))::env) H K):TO q Tryz.prog n all (⟨some d,.unOp .neg t x,ty,pos,aft,none⟩::rest) env H K:=by
 refine TO.neg hd hx ?_;rw[ze2 oA oA,show(0:Int)-b= -b by omega];exact k
theorem zsG{s:Str}(h:s.length≤5/\∀c∈s,48≤c.toNat/\c.toNat≤57):0≤numV s/\numV s≤100000:=by
 have h1:=zjL h.2;have h2:=pw5 h.1;omega
end Go.Proofs.YtdicfgideclbdaaGreatDoor
