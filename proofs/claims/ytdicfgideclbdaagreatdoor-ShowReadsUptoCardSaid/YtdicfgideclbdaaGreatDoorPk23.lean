import Derived.Tactics
import Derived.Tactics2
import Derived.StillTactics
import Derived.Laws.AppendOwn
import Derived.Laws.Runes
import Derived.Laws.CopyRow
import Derived.Laws.Shifts
import Derived.Laws.Rows
import Derived.Laws.BitsLemmas
import Derived.Laws.Tables
import Derived.Laws.NewBlocks
import Derived.Laws.Unary
import Derived.Laws.Strings
import Derived.Laws.NewFold
import Derived.Laws.ShiftsVarLaws
import Derived.Laws.Bits
import Derived.Laws.Alloc2
import Derived.Laws.Bits128
import Derived.Laws.Strings2
import Derived.Laws.Wrap64
import Derived.Laws.ShiftsVar
import Derived.Laws.Closers25
import Derived.Laws.RangeString
import Derived.Laws.Concat
import Derived.Laws.Cells
import Derived.Laws.NewDeep
import Derived.Laws.Pointers
import Derived.Laws.StructEq
import Derived.Laws.Closers25b
import Derived.Laws.StandIn
import Derived.Laws.Bits64b
import Derived.Laws.LoneSync
import Derived.Laws.ByValue
import Derived.Laws.MathBits
import Derived.Laws.Externs
import Derived.Laws.BitsAll
import Derived.Laws.BitsAllLaws
import Derived.Laws.Bits64
import Derived.Laws.OwnMore
import Derived.Laws.Build
import Derived.Laws.ResultCell
import Derived.Laws.Entries
import Derived.Laws.Append
import Derived.Laws.RangeAny
import Derived.Laws.World
import Derived.Laws.Strings3
import Derived.Laws.Sem
import Derived.Laws.Slices
import Derived.Laws.MakeOwn
import Derived.Laws.Small
import Derived.Laws.BytesString
import Derived.Scope
import Derived.FnLit
import Derived.LoopTactic
import Derived.DeepKeys5
import Derived.Test.YtdicfgideclbdaaGreatDoorPk10
import Derived.Test.YtdicfgideclbdaaGreatDoorPk21
import Derived.Test.YtdicfgideclbdaaGreatDoorPk22
set_option maxHeartbeats 64000000
set_option linter.all false
namespace Go.Proofs.YtdicfgideclbdaaGreatDoor
open Go Go.TL
attribute [local irreducible] TR TO Then zal RetK Sound zab Kf GG zaR
variable {l:List Tok}{k id' d:Nat}{es:List En}{tv:Nat×Nat}{env0 envF env:Env}{H0 H:Heap}{R:Rd}{K:TK}{all:Array Oper}{rest:List Oper}{ty:TypeId}{aft:Array Edge}
abbrev rdr (l:List Tok)(es:List En):Rd:=⟨l.map fun t=>(t.1,t.2.1),es⟩
abbrev rdB (l:List Tok)(n:Int)(es:List En)(i:Nat):Blk:=.cells [.t (.sl 3 (l.map tokT)),.i n,.i i,.t (.sl 2 (es.map enT))]
theorem zat(l:List Tok)(es:List En):(rdr l es).K.length=l.length:=qac _
theorem zdM(h:k<l.length):(l.map tokT)[k]?=some (.ag [T.i l[k].1,.s l[k].2.1,T.i l[k].2.2]):=zaL tokT h
theorem zqv(l:List Tok)(n:Int)(es:List En)(i k:Nat)(s:Str)(hl:l.length≤1000000):Sound Tryz.prog 112 [.ref 0 0,.i k,.s s] [rdB l n es i] (fun r H'=>r= .ret (.b ((rdr l es).isAt k s))/\H'=[rdB l n es i]):=by
 have hml:(l.map tokT).length=l.length:=qac _;unfold Rd.isAt;simp only[qan];by_cases hk:k<l.length
 ·have hx:=zdM hk;rw[qad hk];generalize l[k]=t at*;simp only[qaT];refine so Tryz.func112 ?_;repeat' (first|refine wu ?_|exact wkc|refine wk2 ?_ ?_|intro hc)
  all_goals exact zwbq
 ·rw[qa6 oA];refine so Tryz.func112 ?_;exact zwee
theorem zbn(l:List Tok)(n:Int)(es:List En)(i:Nat)(s:Str)(hl:l.length≤1000000):Sound Tryz.prog 60 [.ref 0 0,.s s] [rdB l n es i] (fun r H'=>r= .ret (.b ((rdr l es).isAt i s))/\H'=[rdB l n es i]):=by
 have h:=zqv l n es i i s hl;refine so Tryz.func60 ?_;refine yc h ?_;exact zwfg
theorem zbR(l:List Tok)(n:Int)(es:List En)(i:Nat)(k:Int)(hl:l.length≤1000000):Sound Tryz.prog 64 [.ref 0 0,.i k] [rdB l n es i] (fun r H'=>r= .ret (.b ((rdr l es).kind i k))/\H'=[rdB l n es i]):=by
 have hml:(l.map tokT).length=l.length:=qac _;unfold Rd.kind;simp only[qan];by_cases hk:i<l.length
 ·have hx:=zdM hk;rw[qad hk];generalize l[i]=t at*;simp only[qaT];refine so Tryz.func64 ?_;repeat' (first|refine wu ?_|exact wkc|refine wk2 ?_ ?_|intro hc)
  all_goals exact zwbq
 ·rw[qa6 oA];refine so Tryz.func64 ?_;exact zwee
theorem zaB(l:List Tok)(n:Int)(es:List En)(i:Nat)(s:Str)(hl:l.length≤1000000)(hi:i≤l.length):Sound Tryz.prog 65 [.ref 0 0,.s s] [rdB l n es i] (fun r H'=>r= .ret (.b ((rdr l es).isAt i s))/\H'=[rdB l n es (if(rdr l es).isAt i s=true then i+1 else i)]):=by
 have h:=zbn l n es i s hl;generalize (rdr l es).isAt i s=b at*;cases b
 all_goals
  refine so Tryz.func65 ?_;refine yc h ?_;exact RetK.keep 1 rfl (Le.refl _) rfl rfl rfl rfl rfl ⟨rfl,rfl⟩
section
variable {l:List Tok}{n:Int}{es:List En}{α:Type}{r:PR α}{rs:List ResultVar}{v:SV}{j k:Nat}{c:Int}
end
theorem zjU{l:List Str}(h:k<l.length):(l.map T.s)[k]?=some (T.s l[k]):=by simp[h]
def idxS(s:Str)(l:List Str):Int:=match idxOf s 0 l with
 | some k=>(k:Int)
 | none=>-1
theorem zqr{s:Str}{l:List Str}(h:k<l.length):idxOf s k (l.drop k)=if l[k]=s then some k else idxOf s (k+1) (l.drop (k+1)):=by
 rw[qaP h,idxOf]
theorem zlR(l:List Str)(s:Str)(hl:l.length≤1000000000):Pure Tryz.prog 192 [.t (.sl 1 (l.map T.s)),.s s] (.i (idxS s l)):=by
 have hml:(l.map T.s).length=l.length:=qac _;have h0:idxS s l=match idxOf s 0 (l.drop 0)with|some k=>(k:Int)|none=>-1:=rfl
 generalize idxS s l=z at*;refine so Tryz.func192 ?_;repeat' (first|refine wu ?_|exact wkc|refine wk2 ?_ ?_|intro hc)
 refine TR.zay l.length (fun k=>z=match idxOf s k (l.drop k)with|some k=>(k:Int)|none=>-1) (fun k=>[(0,.t (.sl 1 (l.map T.s))),(1,.s s),(7,.i (l.map T.s).length),(8,.i k)]) (fun _=>[]) h0 (fun k hlt ha=>?_) (fun ha=>?_)
 ·have hx:=zjU hlt;rw[zqr hlt]at ha;generalize l[k]=t at*;repeat' (first|refine wu ?_|exact wkc|refine wk2 ?_ ?_|intro hc)
  ·rw[oG (Eq.symm oE)]at ha;subst ha;exact wkr
  ·rw[oH (fun h=>by first|exact oI h.symm oE|exact oI h oE)]at ha;exact zab.zaD hlt ha
 ·rw[qa1 (qag _)]at ha;repeat' (first|refine wu ?_|exact wkc|refine wk2 ?_ ?_|intro hc)
  subst ha;exact wkr
structure EsOk (es:List En):Prop where
 len:es.length≤3000000
 tags:∀u∈es,u.tags.length≤3000000
def tagR:Option (Nat×Nat)->SV
 | some tv=>.tup [.i (tv.1:Nat),.i (tv.2:Nat),.b true]
 | none=>.tup [.i 0,.i 0,.b false]
theorem zkj{s:Str}:∀ {l:List Str} {k j:Nat},idxOf s k l=some j->k≤j/\j<k+l.length
 | [],_,_,h=>by cases h
 | t::l,k,j,h=>by
   rw[idxOf]at h;split at h
   ·cases h;simp
   ·have:=zkj h
    simp only[qae];omega
theorem zmE{s:Str}(h:k<es.length):zbs s k (es.drop k)=match idxOf s 0 es[k].tags with|some j=>some (3+k,j)|none=>zbs s (k+1) (es.drop (k+1)):=by
 rw[qaP h,zbs];cases idxOf s 0 es[k].tags <;> rfl
theorem zjM{s:Str}:∀ {es:List En} {k:Nat} {tv:Nat×Nat},zbs s k es=some tv->3+k≤tv.1/\tv.1<3+k+es.length/\∃u,es[tv.1-3-k]?=some u/\tv.2<u.tags.length
 | [],_,_,h=>by cases h
 | u::es,k,tv,h=>by
   rw[zbs]at h;cases hq:idxOf s 0 u.tags with
   | some j=>
     rw[hq]at h;cases h
     have:=zkj hq
     exact⟨qag _,oC,u,oC,by simpa using this.2⟩
   | none=>
     rw[hq]at h;obtain⟨h1,h2,w,h3,h4⟩:=zjM h;refine⟨oA,by simp only[qae];omega,w,?_,h4⟩;rw[show tv.1-3-k=(tv.1-3-(k+1))+1 by omega];simpa using h3
theorem zgH (l:List Tok) (n:Int) (es:List En) (i:Nat) (s:Str) (he:EsOk es):Sound Tryz.prog 200 [.ref 0 0,.s s] [rdB l n es i] (fun r H'=>r= .ret (tagR ((rdr l es).tag s))/\H'=[rdB l n es i]):=by
 have hml:(es.map enT).length=es.length:=qac _;have hle:=he.len;have h0:(rdr l es).tag s=zbs s 0 (es.drop 0):=rfl;generalize (rdr l es).tag s=z at*;refine so Tryz.func200 ?_;repeat' (first|refine wu ?_|exact wkc|refine wk2 ?_ ?_|intro hc)
 refine TR.zay es.length (fun k=>z=zbs s k (es.drop k)) (fun k=>[(0,.ref 0 0),(1,.s s),(13,.t (.sl 2 (es.map enT))),(14,.i (es.map enT).length),(15,.i k)]) (fun _=>[rdB l n es i]) h0 (fun k hlt ha=>?_) (fun ha=>?_)
 ·have hx:=zaL enT hlt;rw[zmE hlt]at ha;have hu:=he.tags _ (qai hlt);generalize es[k]=u at*;have hs:=zlR u.tags s oA;unfold enT at hx;have hid:idxS s u.tags=match idxOf s 0 u.tags with|some k=>(k:Int)|none=>-1:=rfl
  have hlt2:=fun j=>@zkj s u.tags 0 j
  generalize idxS s u.tags=w at*;cases hq:idxOf s 0 u.tags with
  | some j=>
    rw[hq]at ha hid
    have:=hlt2 j hq
    simp only at ha hid;subst ha hid;repeat' (first|refine wkt ?_|refine wka ?_|refine wk ?_|exact wkc|refine wk2 ?_ ?_|refine wv hs ?_|intro hc)
    all_goals first
     | exact RetK.keep 1 rfl (Le.refl _) rfl rfl rfl rfl rfl ⟨rfl,rfl⟩
     | (exfalso;omega)
  | none=>
    rw[hq]at ha hid;simp only at ha hid;subst hid;repeat' (first|refine wkt ?_|refine wka ?_|refine wk ?_|exact wkc|refine wk2 ?_ ?_|refine wv hs ?_|intro hc)
    all_goals first
     | exact zab.zaD hlt ha
     | exact zab.zzP 1 hlt ha rfl rfl rfl rfl rfl
 ·rw[qa1 (qag _)]at ha;subst ha;exact zwee
theorem ztA(he:EsOk es){s:Str}(h:(rdr l es).tag s=some tv):3≤tv.1/\tv.1<3+es.length/\∃u,es[tv.1-3]?=some u/\tv.2<u.tags.length:=by
 obtain⟨h1,h2,u,h3,h4⟩:=zjM (k:=0) h;exact⟨oA,by simpa using h2,u,by simpa using h3,h4⟩
theorem zjS(he:EsOk es){i j:Nat}(h:(rdr l es).aTag i= .ok tv j):(tv.1≤6000000/\tv.2≤3000000)/\(tv.1=1/\tv.2≤1\/3≤tv.1/\∃u,es[tv.1-3]?=some u/\tv.2<u.tags.length):=by
 unfold Rd.aTag at h;split at h
 ·exact zwfn
 ·split at h
  ·exact zwfn
  ·cases hq:(rdr l es).id i with
   | er k c=>rw[hq]at h;cases h
   | ok s j2=>
     rw[hq]at h;simp only[PR.bind]at h;cases hq2:(rdr l es).tag s with
     | none=>rw[hq2]at h;cases h
     | some x=>
       rw[hq2]at h;cases h;obtain⟨h1,h2,u,h3,h4⟩:=ztA he hq2
       have:=he.len
       have:=he.tags u (qau h3)
       exact⟨⟨oA,oA⟩,.inr ⟨h1,u,h3,h4⟩⟩
theorem zdI{x:Int}(h:-9223372036854775808≤x/\x≤9223372036854775807):(toI x).1=x:=by unfold toI;rw[dif_pos h]
theorem zsE(l:Str)(c:UInt8):numV (l++[c])=10*numV l+((c.toNat:Int)-48):=by
 unfold numV;rw[qbI];rfl
theorem zpk:∀(l:Str) (a:Int),0≤a->(∀c∈l,48≤c.toNat/\c.toNat≤57)->0≤l.foldl (fun(n:Int) (c:UInt8)=>10*n+((c.toNat:Int)-48)) a/\l.foldl (fun(n:Int) (c:UInt8)=>10*n+((c.toNat:Int)-48)) a<(a+1)*10 ^ l.length
 | [],a,h,_=>⟨h,by simp only[List.foldl_nil,qal,Int.pow_zero];omega⟩
 | c::l,a,h,hd=>by
   have h1:=hd c oC;have h2:=zpk l (10*a+((c.toNat:Int)-48)) oA fun x hx=>hd x (by simp[hx])
   rw[qb1,qae,Int.pow_succ];refine⟨h2.1,Int.lt_of_lt_of_le h2.2 ?_⟩;rw[Int.mul_comm (10 ^ l.length) 10,<-Int.mul_assoc];exact Int.mul_le_mul_of_nonneg_right oA (Int.pow_nonneg oB)
theorem zjv{l:Str}(h:∀c∈l,48≤c.toNat/\c.toNat≤57):0≤numV l/\numV l<10 ^ l.length:=by
 have:=zpk l 0 oB h
 rw[Int.zero_add,Int.one_mul]at this;exact this
theorem bsz(s:ByteArray):s.data.toList.length=s.size:=by cases s;rfl
theorem pw5{n:Nat}(h:n≤5):(10:Int) ^ n≤100000:=by
 rcases(show n=0\/n=1\/n=2\/n=3\/n=4\/n=5 by omega)with rfl|rfl|rfl|rfl|rfl|rfl <;> decide
set_option maxRecDepth 1000000 in
theorem zl3 (s:ByteArray) (hd:∀c∈s.data.toList,48≤c.toNat/\c.toNat≤57) (hs:s.size≤5) (w:World):
  Calls Tryz.prog 201 #[.string s] w fun e w'=>e= .returned (.int .i64 (numV s.data.toList))/\∃pos,w'=w.iter s pos:=by
 go_enter Tryz.func201,Tryz.ntmps201
 go_wp2
 go_loopw [3] (fun n w'=>∃(pos:Nat),w'=w.iter s pos/\n= .int .i64 (numV (s.data.toList.take pos))/\pos≤s.size) (fun _ w'=>s.size-w'.iterPos w.heap.size)
 case atStart=>exact⟨0,rfl,rfl,qaN _⟩
 case round=>
  obtain⟨pos,rfl,rfl,hb⟩:=hrel;by_cases hp:pos<s.size
  ·have hnx:∀ty,(Instr.next (.pointer (some ⟨w.heap.size,0,none⟩)) true ty).run Tryz.prog (w.iter s pos)=_:=fun ty=>run_next_any w s pos ty hp
   go_wp2
   have hl:=bsz s;have hlt:pos<s.data.toList.length:=oA
   have hc:=hd _ (qai hlt);have he:s[pos]'hp=s.data.toList[pos]:=by rw[Array.getElem_toList];rfl
   have hsn:numV (s.data.toList.take (pos+1))=10*numV (s.data.toList.take pos)+((s.data.toList[pos].toNat:Int)-48):=by rw[qaE hlt,zsE]
   have ha:=zjv (l:=s.data.toList.take pos) fun x hx=>hd x (qaS hx)
   have hpw:(10:Int) ^ (s.data.toList.take pos).length≤100000:=pw5 (by rw[qba];omega);rw[decode_ascii s pos hp (by rw[he];omega),he];refine⟨⟨pos+1,rfl,?_,oA⟩,oF⟩;rw[hsn];congr 1;generalize s.data.toList[pos]=c at*;generalize numV (s.data.toList.take pos)=a at*;have hw:∀x:Int,-9223372036854775808≤x->x≤9223372036854775807->RowKit.wrap64 x=x:=fun x h1 h2=>by simp only[RowKit.wrap64];omega
   have hw2:∀x:Int,-2147483648≤x->x≤2147483647->RowKit.wrap32 x=x:=fun x h1 h2=>by simp only[RowKit.wrap32];omega
   simp only;rw[hw2 _ oA oA,hw ((c.toNat:Int)-48) oA oA,hw (10*a) oA oA,hw _ oA oA]
  ·have hnx:∀ty,(Instr.next (.pointer (some ⟨w.heap.size,0,none⟩)) true ty).run Tryz.prog (w.iter s pos)=_:=fun ty=>run_next_end w s pos ty hp
   go_wp2
   go_ret
   rw[qaJ (by rw[bsz];omega)];exact⟨rfl,_,rfl⟩
theorem zf2(s:Str)(hd:∀c∈s,48≤c.toNat/\c.toNat≤57)(hs:s.length≤5):Pure Tryz.prog 201 [.s s] (.i (numV s)):=by
 unfold Go.TL.Pure Go.TL.Sound;refine⟨⟨_,Tryz.func201,oD,rfl⟩,fun m vs h1 h2 h3=>?_⟩;obtain⟨g1,g2⟩:=h3
 match vs,g1,g2 with
 | ⟨[x]⟩,_,g2=>
   have hx:=(g2 0 _ x rfl rfl).v_eq;subst hx;refine Calls.mono (zl3 ⟨s.toArray⟩ (by simpa using hd) (by simpa [ByteArray.size]using hs) m.w) ?_;rintro e w' ⟨rfl,pos,rfl⟩;obtain⟨st,hm⟩:=zeI h2 (w':=m.w.iter ⟨s.toArray⟩ pos) ⟨rfl,rfl,rfl,by show m.w.heap.size≤(m.w.heap.push _).size;rw[Array.size_push];omega,fun b hb=>by show(m.w.heap.push _)[b]?=m.w.heap[b]?;rw[Array.getElem?_push,oH oA]⟩;exact⟨_,.ret (.i (numV s)),rfl,st,hm,.t _ _ (.v _),rfl,h1⟩
theorem rgS{n:Nat}{l:List Oper}(t:List SV)
  (hp:ziN Tryz.prog n K True l.toArray (zaN l.toArray t env0) H0 l (t.map fun v=>(v,false)))(hK:K .normal envF H0)
  (hB:mixB l.toArray (t.map fun _=>false)=true:=by dsimp only[List.map];decide +kernel)(hne:0<l.length:=by decide)(hE:za6 (zaN l.toArray t env0)=some envF:=by exact rfl):
  TR Tryz.prog n (.region id' l.toArray true) env0 H0 K:=by
 have e1:(t.map fun v=>(v,false)).map (·.1)=t:=by rw[qa7];exact qcG t
 have e2:(t.map fun v=>(v,false)).map (·.2)=t.map fun _=>false:=by rw[qa7];rfl
 exact TR.zkx (t.map fun v=>(v,false)) hmix (by rw[e2];exact hB) (by rw[e1];exact hp) (by rw[e1];exact hE) hne fun _=>hK
theorem zl0 (l:List Tok) (n:Int) (es:List En) (i:Nat) (hl:l.length≤1000000) (hi:i≤l.length):Sound Tryz.prog 194 [.ref 0 0] [rdB l n es i] (fun r H'=>r= .ret (.b ((rdr l es).neg i))/\H'=[rdB l n es i]):=by
 have hml:(l.map tokT).length=l.length:=qac _;have h1:=zbn l n es i [45] hl;have hr:(rdr l es).neg i=((rdr l es).isAt i [45] && (rdr l es).kind (i+1) 2):=rfl
 have hk:(rdr l es).kind (i+1) 2=match l[i+1]? with|some t=>decide (t.1=2)|none=>false:=by
  unfold Rd.kind;simp only[qan];cases l[i+1]? <;> rfl
 generalize (rdr l es).neg i=b at*;generalize (rdr l es).kind (i+1) 2=bk at*;generalize (rdr l es).isAt i [45]=b1 at*;subst hr;cases b1 with
 | false=>
   refine so Tryz.func194 ?_;refine wkt ?_;refine rgS [.ref 0 0,.b false,.b false,.t (.v undef),.t (.v undef),.t (.v undef),.t (.v undef),.t (.v undef),.t (.v undef),.t (.v undef),.t (.v undef),.t (.v undef),.t (.v undef),.t (.v undef),.b false,.b false,.t (.v undef),.t (.v undef),.t (.v undef),.t (.v undef),.t (.v undef),.t (.v undef),.t (.v undef),.t (.v undef),.t (.v undef),.t (.v undef),.t (.v undef),.t (.v undef),.t (.v undef),.b false,.b false] ?_ ?_
   ·repeat' (first|refine wkt ?_|refine wd h1 ?_|exact trivial|exact⟨⟨rfl,rfl⟩,trivial⟩|refine qav (fun env=>?_) ?_|refine wk ?_|exact wkc|refine wk2 ?_ ?_|intro hc)
    done
   ·exact zwee
 | true=>
   by_cases hlt:i+1<l.length
   ·have hx:=zdM hlt;have hx':(l.map tokT)[((i:Int)+1).toNat]?=some (.ag [T.i l[i+1].1,.s l[i+1].2.1,T.i l[i+1].2.2]):=by rw[show((i:Int)+1).toNat=i+1 by omega];exact hx
    rw[qad hlt]at hk;simp only at hk;generalize l[i+1]=t at*;by_cases h2:t.1=2
    ·rw[decide_eq_true h2]at hk;subst hk;refine so Tryz.func194 ?_;refine wkt ?_;refine rgS [.ref 0 0,.b true,.b true,.ref 0 0,.ref 0 0,.ref 0 2,.i i,.i ((i:Int)+1),.ref 0 0,.ref 0 0,.ref 0 0,.t (.sl 3 (l.map tokT)),.i (l.map tokT).length,.b true,.b true,.b true,.ref 0 0,.ref 0 0,.ref 0 0,.t (.sl 3 (l.map tokT)),.ref 0 0,.ref 0 0,.ref 0 2,.i i,.i ((i:Int)+1),.cp [T.i t.1,.s t.2.1,T.i t.2.2] 0,.cp [T.i t.1,.s t.2.1,T.i t.2.2] 0,.i t.1,.b true,.b true,.b true] ?_ ?_
     ·repeat' (first|refine wkt ?_|refine wd h1 ?_|exact trivial|exact⟨⟨rfl,rfl⟩,trivial⟩|refine qav (fun env=>?_) ?_|refine wk ?_|exact wkc|refine wk2 ?_ ?_|intro hc)
      done
     ·exact zwee
    ·rw[decide_eq_false h2]at hk;subst hk;refine so Tryz.func194 ?_;refine wkt ?_;refine rgS [.ref 0 0,.b true,.b true,.ref 0 0,.ref 0 0,.ref 0 2,.i i,.i ((i:Int)+1),.ref 0 0,.ref 0 0,.ref 0 0,.t (.sl 3 (l.map tokT)),.i (l.map tokT).length,.b true,.b true,.b true,.ref 0 0,.ref 0 0,.ref 0 0,.t (.sl 3 (l.map tokT)),.ref 0 0,.ref 0 0,.ref 0 2,.i i,.i ((i:Int)+1),.cp [T.i t.1,.s t.2.1,T.i t.2.2] 0,.cp [T.i t.1,.s t.2.1,T.i t.2.2] 0,.i t.1,.b false,.b false,.b false] ?_ ?_
     ·repeat' (first|refine wkt ?_|refine wd h1 ?_|exact trivial|exact⟨⟨rfl,rfl⟩,trivial⟩|refine qav (fun env=>?_) ?_|refine wk ?_|exact wkc|refine wk2 ?_ ?_|intro hc)
      done
     ·exact zwee
   ·rw[qa6 oA]at hk;simp only at hk;subst hk;refine so Tryz.func194 ?_;refine wkt ?_;refine rgS [.ref 0 0,.b true,.b true,.ref 0 0,.ref 0 0,.ref 0 2,.i i,.i ((i:Int)+1),.ref 0 0,.ref 0 0,.ref 0 0,.t (.sl 3 (l.map tokT)),.i (l.map tokT).length,.b false,.b false,.b false,.t (.v undef),.t (.v undef),.t (.v undef),.t (.v undef),.t (.v undef),.t (.v undef),.t (.v undef),.t (.v undef),.t (.v undef),.t (.v undef),.t (.v undef),.t (.v undef),.t (.v undef),.b false,.b false] ?_ ?_
    ·repeat' (first|refine wkt ?_|refine wd h1 ?_|exact trivial|exact⟨⟨rfl,rfl⟩,trivial⟩|refine qav (fun env=>?_) ?_|refine wk ?_|exact wkc|refine wk2 ?_ ?_|intro hc)
     done
    ·exact zwee
theorem zzs:Maps.Keyed Tryz.prog 9:=Maps.string_keyed Tryz.underlying9
theorem keyP{s:Str}(h:s.length≤1000000000):∃l,keyOf Tryz.prog 9 (str s)=some l:=by
 exact zwbk
theorem zpG{a b:Str}(h:str a=str b):a=b:=by
 exact zwep
abbrev opL (l:List (Str×Int)):List (Value×T):=l.map fun e=>(str e.1,.v (.int .i64 e.2))
abbrev opB (l:List (Str×Int)):Blk:=.map 9 3 (opL l)
def zl6(l:List (Str×Int))(s:Str):Option Int:=(l.find? fun e=>decide (e.1=s)).map fun e=>e.2
structure OpOk (l:List (Str×Int)):Prop where
 nodup:(l.map fun e=>e.1).Nodup
 short:∀e∈l,e.1.length≤1000000000
theorem OpOk.keys{l:List (Str×Int)}(h:OpOk l):zhA Tryz.prog 9 (opL l):=by
 intro j e he;rw[qan]at he;cases hq:l[j]? with
 | none=>rw[hq]at he;cases he
 | some s=>rw[hq]at he;cases he;exact keyP (h.short s (qau hq))
theorem zwH{l:List (Str×Int)}(h:OpOk l)(s:Str):zk2 (opL l) (str s) ((zl6 l s).map fun v=>.v (.int .i64 v)):=by
 unfold zl6;cases hf:l.find? (fun e=>decide (e.1=s)) with
 | none=>
   rw[qcv]at hf;intro j e he e2;rw[qan]at he;cases hq:l[j]? with
   | none=>rw[hq]at he;cases he
   | some x=>
     rw[hq]at he;cases he
     exact hf x (qau hq) (by simpa using zpG e2)
 | some e=>
   have hm:=qb9 hf;have hp:=List.find?_some hf;simp only[decide_eq_true_eq]at hp;obtain⟨j,hj⟩:=qbf hm;refine⟨j,by simp[opL,hj,hp],fun j' t' h'=>?_⟩;rw[qan]at h';cases hq:l[j']? with
   | none=>rw[hq]at h';cases h'
   | some x=>
     rw[hq]at h';simp only[qaT,qaI,qbt]at h';have h1:=zpG h'.1;have e1:(l.map fun e=>e.1)[j']?=some s:=by simp[hq,h1]
     have e2:(l.map fun e=>e.1)[j]?=some s:=by simp[hj,hp]
     exact(qcF (qaa.1 e1).1 h.nodup).1 (e1.trans e2.symm)
section
variable {n:Nat}{id:Nat}{pos:String}{x y w:Operand}{q:Bool}
theorem TO.zsi{P:Program}{t:TypeId}(k:TO false P n all (⟨none,.mapUpdate t x y w,ty,pos,aft,none⟩::rest) env H K):TO false P n all (⟨none,.insert t x y w,ty,pos,aft,none⟩::rest) env H K:=by
 unfold Go.TL.TO at k⊢;intro φ m a h1 h2 h3 h4;have h:=k φ m a h1 h2 h3 h4;simp only[wpListIn]at h⊢;rw[oG (show Region.wanted _ _=true from rfl)]at h⊢;unfold Oper.wpIn at h⊢;refine⟨fun _ _=>trivial,?_⟩
 have e:∀r,Oper.semAt r a.eval ⟨none,.insert t x y w,ty,pos,aft,none⟩=Oper.semAt r a.eval ⟨none,.mapUpdate t x y w,ty,pos,aft,none⟩:=fun r=>by
  rw[Oper.semAt_eq _ _ _ (by intro c e;cases e),Oper.semAt_eq _ _ _ (by intro c e;cases e)];simp only[execOp]
 rw[e];have h5:=h.2;unfold Oper.uponIn at h5⊢;exact h5
theorem TO.zf3{l:List (Str×Int)}{s:Str}{v:Int}{H':Heap}(hx:env.val x=some (.mp id))(hH:H[id]?=some (opB l))(hy:env.val y=some (.s s))(hw:env.val w=some (.i v))(hl:OpOk l)(hn:zl6 l s=none)(hs:s.length≤1000000000)
  (hH':setS H id (opB (l++[(s,v)]))=some H')(kk:TO false Tryz.prog n all rest env H' K):
  TO false Tryz.prog n all (⟨none,.insert 279 x y w,ty,pos,aft,none⟩::rest) env H K:=by
 have hg:=zwH hl s;rw[hn]at hg;refine TO.zsi ?_;exact TO.mapUpdate zaf rfl rfl zzs hx hH hl.keys hy (kx:=str s) (fun m v h=>h.v_eq) (keyP hs) hw rfl (.inr ⟨hg,by rw[opL,qaw];rfl⟩) (zgE hH').symm kk
theorem TO.zl6{l:List (Str×Int)}{s:Str}(hd:Nat.ble (d+1) n=true)(hx:env.val x=some (.mp id))(hH:H[id]?=some (opB l))(hy:env.val y=some (.s s))(hl:OpOk l)(hs:s.length≤1000000000)
  {r:Option Int}(hr:Go.Proofs.YtdicfgideclbdaaGreatDoor.zl6 l s=r)(k:TO q Tryz.prog n all rest ((d,.tup [.i (r.getD 0),.b r.isSome])::env) H K):
  TO q Tryz.prog n all (⟨some d,.lookup 279 x y true,ty,pos,aft,none⟩::rest) env H K:=by
 refine TO.lookup zaf hd rfl rfl rfl rfl rfl zzs hx hH hl.keys hy (kx:=str s) (fun m v h=>h.v_eq) (keyP hs) (zwH hl s) ?_;rw[hr];cases r <;> exact k
end
def opsL(n:Int):List (Str×Int):=
 if n=0 then[([111,114],4),([120,111,114],5)]
 else if n=1 then[([97,110,100],3)]
 else if n=3 then[([61],11),([60,62],12),([60],13),([60,61],14),([62],15),([62,61],16)]
 else if n=4 then[([43],6),([45],7)]
 else[([42],8),([47],9),([109,111,100],10)]
theorem zyc(n:Int):OpOk (opsL n):=by
 unfold opsL;split
 ·exact⟨oB,oB⟩
 split
 ·exact⟨oB,oB⟩
 split
 ·exact⟨oB,oB⟩
 split
 ·exact⟨oB,oB⟩
 ·exact⟨oB,oB⟩
theorem zle (n:Int):Sound Tryz.prog 196 [.i n] [] (fun r H'=>r= .ret (.mp 0)/\H'=[opB (opsL n)]):=by
 have e0:OpOk []:=⟨qbG,oC⟩;unfold opsL;split
 ·refine so Tryz.func196 ?_;repeat' (first|refine wu ?_|exact wkc|refine wk2 ?_ ?_|(apply TO.makeMap 9 3;exact rfl)|(refine TO.zf3 (id:=0) (l:=[]) rfl rfl rfl rfl ⟨oB,oB⟩ oB (leB) rfl ?_)|(refine TO.zf3 (id:=0) (l:=[([111,114],4)]) rfl rfl rfl rfl ⟨oB,oB⟩ oB (leB) rfl ?_)|intro hc)
  exact zwfg
 split
 ·refine so Tryz.func196 ?_;repeat' (first|refine wu ?_|exact wkc|refine wk2 ?_ ?_|(apply TO.makeMap 9 3;exact rfl)|(refine TO.zf3 (id:=0) (l:=[]) rfl rfl rfl rfl ⟨oB,oB⟩ oB (leB) rfl ?_)|intro hc)
  exact zwfg
 split
 ·refine so Tryz.func196 ?_;repeat' (first|refine wu ?_|exact wkc|refine wk2 ?_ ?_|(apply TO.makeMap 9 3;exact rfl)|(refine TO.zf3 (id:=0) (l:=[]) rfl rfl rfl rfl ⟨oB,oB⟩ oB (leB) rfl ?_)|(refine TO.zf3 (id:=0) (l:=[([61],11)]) rfl rfl rfl rfl ⟨oB,oB⟩ oB (leB) rfl ?_)|(refine TO.zf3 (id:=0) (l:=[([61],11),([60,62],12)]) rfl rfl rfl rfl ⟨oB,oB⟩ oB (leB) rfl ?_)|(refine TO.zf3 (id:=0) (l:=[([61],11),([60,62],12),([60],13)]) rfl rfl rfl rfl ⟨oB,oB⟩ oB (leB) rfl ?_)|(refine TO.zf3 (id:=0) (l:=[([61],11),([60,62],12),([60],13),([60,61],14)]) rfl rfl rfl rfl ⟨oB,oB⟩ oB (leB) rfl ?_)|(refine TO.zf3 (id:=0) (l:=[([61],11),([60,62],12),([60],13),([60,61],14),([62],15)]) rfl rfl rfl rfl ⟨oB,oB⟩ oB (leB) rfl ?_)|intro hc)
  exact zwfg
 split
 ·refine so Tryz.func196 ?_;repeat' (first|refine wu ?_|exact wkc|refine wk2 ?_ ?_|(apply TO.makeMap 9 3;exact rfl)|(refine TO.zf3 (id:=0) (l:=[]) rfl rfl rfl rfl ⟨oB,oB⟩ oB (leB) rfl ?_)|(refine TO.zf3 (id:=0) (l:=[([43],6)]) rfl rfl rfl rfl ⟨oB,oB⟩ oB (leB) rfl ?_)|intro hc)
  exact zwfg
 ·refine so Tryz.func196 ?_;repeat' (first|refine wu ?_|exact wkc|refine wk2 ?_ ?_|(apply TO.makeMap 9 3;exact rfl)|(refine TO.zf3 (id:=0) (l:=[]) rfl rfl rfl rfl ⟨oB,oB⟩ oB (leB) rfl ?_)|(refine TO.zf3 (id:=0) (l:=[([42],8)]) rfl rfl rfl rfl ⟨oB,oB⟩ oB (leB) rfl ?_)|(refine TO.zf3 (id:=0) (l:=[([42],8),([47],9)]) rfl rfl rfl rfl ⟨oB,oB⟩ oB (leB) rfl ?_)|intro hc)
  exact zwfg
section rules
variable {P:Program}{n:Nat}{pos:String}
theorem TO.zy5{cargs:List SV}{kt vt:TypeId}{es:List (Value×T)}{f:Operand}{fid:FuncId}{caps:List SV}{args:Array Operand}{ts:Array TypeId}{vs:List SV}
  (hs:Sound P fid cargs [] fun r H'=>r= .ret (.mp 0)/\H'=[.map kt vt es])(hd:Nat.ble (d+1) n=true)
  (hf:env.val f=some (.fn fid caps))(ha:env.vals args.toList=some vs)(hl:Les (vs++caps) cargs)(hu:unders 0 cargs=true)
  (k:TO false P n all rest ((d,.mp H.length)::env) (H++[.map kt vt es]) K):
  TO false P n all (⟨some d,.call { callee:=.value f,args:=args,argTypes:=ts },ty,pos,aft,none⟩::rest) env H K:=
 TO.zdD [] hs hd hf ha (by rw[zbq (N:=0) (fun j hj=>oA) _ hu];exact hl) hu (zeY H) (by simp[SV.ren,names]) (by
  simp only[patch,qaf,qaD,Blk.ren]) k
end rules
theorem rgX(c:Nat){g:Prop}{n:Nat}{HF:Heap}{l:List Oper}(t:List (SV×Nat×Nat))(hs:List Heap)
  (hp:zgk Tryz.prog n K c g l.toArray (zaN l.toArray (t.map (·.1)) env0) hs 0 l t hs)(hK:g->K .normal envF HF)
  (hB:(mixB l.toArray ((t.map (·.2)).map fun x=>Nat.blt x.2 x.1) && zjx l.toArray (t.map (·.2)) hs.length)=true:=by dsimp only[List.map,List.length];decide +kernel)(h0:hs[0]?=some H0:=by exact rfl)
  (hc:Nat.blt c l.length=true:=by exact rfl)(hF:hs[(t.filter efX).length]?=some HF:=by exact rfl)(hE:za6 (zaN l.toArray (t.map (·.1)) env0)=some envF:=by exact rfl):
  TR Tryz.prog n (.region id' l.toArray true) env0 H0 K:=TR.znQ c t hs hmix hB h0 hp hc hF hE hK
theorem znN(k:Nat)(s:Str):zl6 (opsL (k:Int)) s=zif k s:=by
 unfold opsL zif zl6;by_cases h0:k=0
 ·subst h0;rw[oG (show((0:Nat):Int)=0 from rfl),oG (show(0:Nat)=0 from rfl)];simp only[List.find?];repeat' split
  all_goals simp_all
 rw[oH oA,oH h0];by_cases h1:k=1
 ·subst h1;rw[oG (show((1:Nat):Int)=1 from rfl),oG (show(1:Nat)=1 from rfl)];simp only[List.find?];repeat' split
  all_goals simp_all
 rw[oH oA,oH h1];by_cases h3:k=3
 ·subst h3;rw[oG (show((3:Nat):Int)=3 from rfl),oG (show(3:Nat)=3 from rfl)];simp only[List.find?];repeat' split
  all_goals simp_all
 rw[oH oA,oH h3];by_cases h4:k=4
 ·subst h4;rw[oG (show((4:Nat):Int)=4 from rfl),oG (show(4:Nat)=4 from rfl)];simp only[List.find?];repeat' split
  all_goals simp_all
 rw[oH oA,oH h4];simp only[List.find?];repeat' split
 all_goals simp_all
theorem zqL (l:List Tok) (n:Int) (es:List En) (i k:Nat) (hl:l.length≤1000000) (hS:∀t∈l,t.2.1.length≤1000000000):Sound Tryz.prog 178 [.ref 0 0,.i k] [rdB l n es i] (fun r H'=>r= .ret (.tup [.i (((rdr l es).oper k i).getD 0),.b ((rdr l es).oper k i).isSome])/\H'=[rdB l n es i]):=by
 have hml:(l.map tokT).length=l.length:=qac _;have h3:=zbR l n es i 3 hl;have h4:=zbR l n es i 4 hl;have hr:(rdr l es).oper k i=if((rdr l es).kind i 3 || (rdr l es).kind i 4)=true then zif k ((rdr l es).txt i) else none:=rfl
 have hb:=zle k;have hg:=znN k ((rdr l es).txt i);rw[<-hg]at hr
 have hin:((rdr l es).kind i 3 || (rdr l es).kind i 4)=true->i<l.length:=by
  intro h;unfold Rd.kind at h;simp only[qan]at h;by_cases hi:i<l.length
  ·exact hi
  ·rw[qa6 oA]at h;simp at h
 have ht:∀h:i<l.length,(rdr l es).txt i=l[i].2.1:=by
  intro h;exact zwdv
 generalize (rdr l es).oper k i=o at*;generalize (rdr l es).kind i 3=b3 at*;generalize (rdr l es).kind i 4=b4 at*;generalize (rdr l es).txt i=s at*;clear hg;cases hbb:(b3 || b4) with
 | false=>
   rw[hbb,oH oB]at hr;subst hr;cases b3 with
   | true=>cases hbb
   | false=>
     cases b4 with
     | true=>cases hbb
     | false=>
       refine so Tryz.func178 ?_;refine yg h3 h4 ?_;exact RetK.keep 1 rfl (Le.refl _) rfl rfl rfl rfl rfl ⟨rfl,rfl⟩
 | true=>
   rw[hbb,oG rfl]at hr;have hlt:=hin hbb;have hx:=zdM hlt;have hs':=ht hlt;have hsl:=hS _ (qai hlt);generalize l[i]=t at*;rw[<-hs']at hx hsl;have ok:=zyc k;generalize opsL (k:Int)=L at*;rcases(show b3=true\/(b3=false/\b4=true) by clear hr h3 h4 hb;cases b3 <;> simp_all)with rfl|⟨rfl,rfl⟩
   all_goals
    refine so Tryz.func178 ?_;repeat' (first|refine wkt ?_|refine wd h3 ?_|refine wd h4 ?_|(apply TO.want;exact rfl)|exact wkc|refine wk2 ?_ ?_|intro hc)
    refine rgX 1 (g:=True) [(.i k,0,1),(.mp 1,1,0),(.ref 0 0,0,1),(.ref 0 0,0,1),(.ref 0 0,0,1),(.t (.sl 3 (l.map tokT)),0,1),(.ref 0 0,0,1),(.ref 0 0,0,1),(.ref 0 2,0,1),(.i i,0,1),(.cp [T.i t.1,.s s,T.i t.2.2] 0,0,1),(.cp [T.i t.1,.s s,T.i t.2.2] 1,0,1),(.s s,0,1),(.tup [.i (o.getD 0),.b o.isSome],1,1),(.tup [.i (o.getD 0),.b o.isSome],0,1),(.i (o.getD 0),0,1),(.b o.isSome,0,1),(.i (o.getD 0),0,1),(.b o.isSome,0,1)] [[rdB l n es i],[rdB l n es i,opB L]] ?_ (fun _=>?_)
    ·repeat' (first|refine wkt ?_|refine wd h1 ?_|exact trivial|exact⟨⟨rfl,rfl⟩,trivial⟩|refine qav (fun env=>?_) ?_|refine qav ?_ ?_|refine wk ?_|exact wkc|refine wk2 ?_ ?_|(apply TO.zy5 hb;(iterate 3 exact rfl);exact⟨Le.refl _,trivial⟩;exact rfl)|(refine TO.zl6 (id:=1) (r:=o) rfl rfl rfl rfl ok hsl hr.symm ?_)|intro hc)
     done
    ·exact zwee
theorem zuU{i:Nat}{op:Int}(h:(rdr l es).oper k i=some op):i<l.length:=by
 have:=zsO h
 rw[zat]at this;exact this
theorem zuW{f:Nat->PR Ex}:∀ {m:Nat} {a:Ex} {i:Nat},R.oper k i=none->R.ops f k m a i= .ok a i
 | 0,_,_,_=>rfl
 | m+1,a,i,h=>by rw[Rd.ops,h]
theorem zsM{s:Str}{op:Int}(h:zif k s=some op):0≤op/\op≤100:=by
 unfold zif at h;repeat' split at h
 all_goals first|(cases h;exact⟨oB,oB⟩)|cases h
theorem zuV{i:Nat}{op:Int}(h:R.oper k i=some op):0≤op/\op≤100:=by
 unfold Rd.oper at h;split at h
 ·exact zsM h
 ·cases h
abbrev exZ:Blk:=.cells [.t (.v (.int .i64 0)),.t (.v (.int .i64 0)),.t (.v (.int .i64 0)),.t (.v (.int .i64 0)),.t (.v (str [])),.t (.v (.slice none 0 0))]
theorem zq3:∀ {m:Nat} {a:Ex} {i:Nat},R.isAt i [119,104,101,110]=false->R.whens m a i= .ok a i
 | 0,_,_,_=>rfl
 | m+1,a,i,h=>by rw[Rd.whens,h,oH oB]
structure TkOk (l:List Tok):Prop where
 len:l.length≤1000000
 short:∀t∈l,t.2.1.length≤1000000000
 num:∀t∈l,t.1=2->t.2.1.length≤5/\∀c∈t.2.1,48≤c.toNat/\c.toNat≤57
theorem zkU{i:Nat}(h:i<l.length):(rdr l es).txt i=l[i].2.1:=by
 exact zwdv
theorem zhn{i:Nat}{k:Int}(hk:(rdr l es).kind i k=true):∃h:i<l.length,l[i].1=k:=by
 have h:=zdF hk;rw[zat]at h;refine⟨h,?_⟩;unfold Rd.kind at hk;simpa only[qan,qad h,qaT,decide_eq_true_eq]using hk
theorem TO.zA9{q:Bool}{n:Nat}{t:TypeId}{pos:String}{x:Operand}{b:Int}(hd:Nat.ble (d+1) n=true)(hx:env.val x=some (.i b))(h1:-9223372036854775808≤-b)(h2:-b≤9223372036854775807)
  (k:TO q Tryz.prog n all rest ((d,.i (-b))::env) H K):TO q Tryz.prog n all (⟨some d,.unOp .neg t x,ty,pos,aft,none⟩::rest) env H K:=by
 refine TO.neg hd hx ?_;rw[zeT oA oA,show(0:Int)-b= -b by omega];exact k
theorem zsF{s:Str}(h:s.length≤5/\∀c∈s,48≤c.toNat/\c.toNat≤57):0≤numV s/\numV s≤100000:=by
 have h1:=zjv h.2;have h2:=pw5 h.1;omega
end Go.Proofs.YtdicfgideclbdaaGreatDoor
