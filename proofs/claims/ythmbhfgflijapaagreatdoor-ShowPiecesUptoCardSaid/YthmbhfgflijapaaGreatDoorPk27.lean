import Derived.Tactics
import Derived.Tactics2
import Derived.StillTactics
import Derived.Laws.AppendOwn
import Derived.Laws.Runes
import Derived.Laws.CopyRow
import Derived.Laws.Shifts
import Derived.Laws.Rows
import Derived.Laws.BitsLemmas
import Derived.Laws.Tables
import Derived.Laws.NewBlocks
import Derived.Laws.Unary
import Derived.Laws.Strings
import Derived.Laws.NewFold
import Derived.Laws.ShiftsVarLaws
import Derived.Laws.Bits
import Derived.Laws.Alloc2
import Derived.Laws.Bits128
import Derived.Laws.Strings2
import Derived.Laws.Wrap64
import Derived.Laws.ShiftsVar
import Derived.Laws.Closers25
import Derived.Laws.RangeString
import Derived.Laws.Concat
import Derived.Laws.Cells
import Derived.Laws.NewDeep
import Derived.Laws.Pointers
import Derived.Laws.StructEq
import Derived.Laws.Closers25b
import Derived.Laws.StandIn
import Derived.Laws.Bits64b
import Derived.Laws.LoneSync
import Derived.Laws.ByValue
import Derived.Laws.MathBits
import Derived.Laws.Externs
import Derived.Laws.BitsAll
import Derived.Laws.BitsAllLaws
import Derived.Laws.Bits64
import Derived.Laws.OwnMore
import Derived.Laws.Build
import Derived.Laws.ResultCell
import Derived.Laws.Entries
import Derived.Laws.Append
import Derived.Laws.RangeAny
import Derived.Laws.World
import Derived.Laws.Strings3
import Derived.Laws.Sem
import Derived.Laws.Slices
import Derived.Laws.MakeOwn
import Derived.Laws.Small
import Derived.Scope
import Derived.FnLit
import Derived.LoopTactic
import Derived.Test.YthmbhfgflijapaaGreatDoorPk26
set_option linter.all false
namespace Go.Proofs.YthmbhfgflijapaaGreatDoor
open Go Go.TL
attribute [local irreducible] TR TO Then zag RetK Sound zab Kf GG zaK
structure NdL (es:List En) (e:Ex):Prop where
 kind:1≤e.kind.1/\e.kind.1≤11
 o3:e.kind.1=3->1≤e.op.1/\e.op.1≤16/\(e.args.length:Int)=opdI e.op.1
 k4:e.kind.1=4->e.args.length=3
 k5:e.kind.1=5\/e.kind.1=8->e.args.length=1
 k6:e.kind.1=6\/e.kind.1=7->e.args.length=2
 nm:e.kind.1=2\/e.kind.1=8\/e.kind.1=9\/e.kind.1=10->zeI 1 e.name
 wd:e.kind.1=11->zeI 5 e.name
 c1:e.kind.1=1->LxP (valS es e.t.1 e.v.1) (vlTk es e.t.1 e.v.1)/\((e.t.1≠2\/0≤e.v.1)->HdO (valS es e.t.1 e.v.1))
 c8:e.kind.1=8->LxP (valS es e.t.1 e.v.1) [tgTk es e.t.1 e.v.1]
 c9:e.kind.1=9->∀j,j<e.args.length->LxP (valS es e.t.1 (brV e.t.1 j)) [tgTk es e.t.1 (brV e.t.1 j)]
 k9:e.kind.1=9->e.t.1=1->e.args.length=2
 c10:e.kind.1=10->(e.v.1=0\/e.v.1=1)/\e.v.1≤e.args.length
variable {es:List En}{f:Ex->Str}{e:Ex}
theorem shE1(h:e.kind.1=1):shE es f e=valS es e.t.1 e.v.1:=by
 rw[shE,if_pos h]
theorem shE2(h:e.kind.1=2):shE es f e=e.name:=by
 rw[shE,if_neg (by rw[h];decide),if_neg (by rw[h];decide),if_neg (by rw[h];decide),if_neg (by rw[h];decide),if_neg (by rw[h];decide),if_neg (by rw[h];decide),if_neg (by rw[h];decide),if_neg (by rw[h];decide),if_neg (by rw[h];decide),if_neg (by rw[h];decide)]
theorem shE3(h:e.kind.1=3):shE es f e=zgE f e.op.1 e.args:=by
 rw[shE,if_neg (by rw[h];decide),if_pos h]
theorem shE4(h:e.kind.1=4):shE es f e=(match e.args with|[a,b,c]=>[105,102,32]++f a++[32,116,104,101,110,32]++f b++[32,101,108,115,101,32]++f c|_=>[]):=by
 rw[shE,if_neg (by rw[h];decide),if_neg (by rw[h];decide),if_pos h]
 rfl
theorem shE5(h:e.kind.1=5):shE es f e=(match e.args with|[a]=>[112,114,101,32]++grS f a|_=>[]):=by
 rw[shE,if_neg (by rw[h];decide),if_neg (by rw[h];decide),if_neg (by rw[h];decide),if_pos h]
 rfl
theorem shE6(h:e.kind.1=6):shE es f e=(match e.args with|[a,b]=>grS f a++[32,45,62,32]++grS f b|_=>[]):=by
 rw[shE,if_neg (by rw[h];decide),if_neg (by rw[h];decide),if_neg (by rw[h];decide),if_neg (by rw[h];decide),if_pos h]
 rfl
theorem shE7(h:e.kind.1=7):shE es f e=(match e.args with|[a,b]=>grS f a++[32,102,98,121,32]++grS f b|_=>[]):=by
 rw[shE,if_neg (by rw[h];decide),if_neg (by rw[h];decide),if_neg (by rw[h];decide),if_neg (by rw[h];decide),if_neg (by rw[h];decide),if_pos h]
 rfl
theorem shE8(h:e.kind.1=8):shE es f e=(match e.args with|[a]=>grS f a++[32]++smpS es ⟨e.name,e.t,e.v⟩|_=>[]):=by
 rw[shE,if_neg (by rw[h];decide),if_neg (by rw[h];decide),if_neg (by rw[h];decide),if_neg (by rw[h];decide),if_neg (by rw[h];decide),if_neg (by rw[h];decide),if_pos h]
 rfl
theorem shE9(h:e.kind.1=9):shE es f e=zbc es f e.t.1 e.args ([109,101,114,103,101,32]++e.name) e.args.length:=by
 rw[shE,if_neg (by rw[h];decide),if_neg (by rw[h];decide),if_neg (by rw[h];decide),if_neg (by rw[h];decide),if_neg (by rw[h];decide),if_neg (by rw[h];decide),if_neg (by rw[h];decide),if_pos h]
theorem zvN(h:e.kind.1=10):shE es f e=zeX f e.v.1 e.name e.args:=by
 rw[shE,if_neg (by rw[h];decide),if_neg (by rw[h];decide),if_neg (by rw[h];decide),if_neg (by rw[h];decide),if_neg (by rw[h];decide),if_neg (by rw[h];decide),if_neg (by rw[h];decide),if_neg (by rw[h];decide),if_pos h]
theorem zvO(h:e.kind.1=11):shE es f e=[39]++e.name++[39]:=by
 rw[shE,if_neg (by rw[h];decide),if_neg (by rw[h];decide),if_neg (by rw[h];decide),if_neg (by rw[h];decide),if_neg (by rw[h];decide),if_neg (by rw[h];decide),if_neg (by rw[h];decide),if_neg (by rw[h];decide),if_neg (by rw[h];decide),if_pos h]
theorem zlL{es:List En}{g:Ex->List Tk}{t:Int}{args:List Ex}(h:t=1->args.length=2):((List.range args.length).map fun j=>brTk (tgTk es t (brV t (j:Nat)),((args[(brV t (j:Nat)).toNat]?).map g).getD [])).flatten=zdr (brL es g t args):=by
 unfold brL zdr
 by_cases ht:t=1
 ·rw[if_pos ht]
  have hl:=h ht
  subst ht
  match args,hl with
  | [b,a],_=>
    show(([0,1]:List Nat).map _).flatten=_
    rfl
 ·rw[if_neg ht]
  congr 1
  rw[qa8]
  refine List.ext_getElem (by simp) fun i h1 h2=>?_
  have hi:i<args.length:=by simpa using h1
  have hb:brV t i=(i:Int):=by unfold brV;rw[if_neg ht]
  simp only[qcB,List.getElem_range,hb,qcv,qac hi,qaW,qbm,Function.comp,List.getElem_zipIdx,qaU]
set_option maxHeartbeats 1000000 in
theorem znG {es:List En}:∀(m:Nat) (e:Ex),wEx e≤m->(∀x∈flat e,NdL es x)->ztt (shF es m e) (tkF es m e) (grS (shF es m) e) (tkO (tkF es m) e)
 | 0,e,h,_=>absurd (zb7 e) (by omega)
 | m+1,e,h,hN=>by
   have ih:∀x∈e.args,ztt (shF es m x) (tkF es m x) (grS (shF es m) x) (tkO (tkF es m) x):=fun x hx=>znG m x (by
    rw[zfN]at h
    have:=zh2 wEx hx
    omega) (fun y hy=>hN y (by
     rw[zbJ]
     refine qan _ ?_
     unfold flats
     exact qbx.2 ⟨flat x,qaP.2 ⟨x,hx,rfl⟩,hy⟩))
   have hn:NdL es e:=hN e (by rw[zbJ];exact qak)
   clear hN h
   have hF:tkF es (m+1) e=tkE es (tkF es m) e:=rfl
   have hS:shF es (m+1) e=shE es (shF es m) e:=rfl
   generalize tkF es (m+1)=g' at*
   generalize tkF es m=g at*
   generalize shF es (m+1)=f' at*
   generalize shF es m=f at*
   refine zwU ?_ ?_
   case refine_2=>
    intro hp
    have hp:=of_decide_eq_true hp
    rw[hS]
    rcases hp with hk|hk|hk|⟨hk,hv⟩
    ·rw[shE2 hk]
     have:=HdO.name (hn.nm (.inl hk)) []
     rwa [qaG]at this
    ·rw[zvO hk]
     exact⟨39,_,rfl,by decide,by decide⟩
    ·rw[zvN hk]
     unfold zeX
     split
     ·exact zwfo
     ·exact zwfo
    ·rw[shE1 hk]
     exact(hn.c1 hk).2 hv
   rw[hS,hF]
   have hk:e.kind.1=1\/e.kind.1=2\/e.kind.1=3\/e.kind.1=4\/e.kind.1=5\/e.kind.1=6\/e.kind.1=7\/e.kind.1=8\/e.kind.1=9\/e.kind.1=10\/e.kind.1=11:=by have:=hn.kind;omega
   rcases hk with hk|hk|hk|hk|hk|hk|hk|hk|hk|hk|hk
   ·rw[shE1 hk,tkE1 hk]
    exact(hn.c1 hk).1
   ·rw[shE2 hk,tkE2 hk]
    exact LxP.nam (by decide) (hn.nm (.inl hk))
   ·rw[shE3 hk,tkE3 hk]
    obtain⟨o1,o2,o3⟩:=hn.o3 hk
    unfold opdI at o3
    generalize e.op.1=o at*
    generalize e.args=args at*
    match args,ih,o3 with
    | [],_,o3=>exfalso;split at o3 <;> simp at o3
    | [a],ih,o3=>
      have ia:=ih a (by simp)
      by_cases h1:o=1
      ·rw[znv h1,show zgE f o [a]=[110,111,116,32]++grS f a from if_pos h1]
       exact zwB.cnc ia.o
      ·by_cases h3:a.kind.1=1/\a.t.1=2
       ·rw[zkY h1 h3,show zgE f o [a]=[45,40]++f a++[41] from(if_neg h1).trans (if_pos h3)]
        exact LxP.minus (c:=40) (by decide) (by decide) ia.t.brk
       ·rw[zkZ h1 h3,show zgE f o [a]=[45]++grS f a from(if_neg h1).trans (if_neg h3)]
        have hd:=ia.hd
        have ho:=ia.o
        generalize grS f a=G at*
        obtain⟨c,r,rfl,g1,g2⟩:=hd
        exact LxP.minus g1 g2 ho
    | [a,b],ih,o3=>
      have h3:3≤o:=by
       split at o3
       ·simp at o3
       ·omega
      show LxP (grS f a++[32]++symS o++[32]++grS f b) (tkO g a++opTk o::tkO g b)
      have:=(ih a (by simp)).o.thn ((zui h3 o2).cnc (ih b (by simp)).o)
      simpa using this
    | _::_::_::_,_,o3=>exfalso;simp at o3;split at o3 <;> omega
   ·rw[shE4 hk,tkE4 hk]
    have hl:=hn.k4 hk
    generalize e.args=args at*
    match args,ih,hl with
    | [c,a,b],ih,_=>
      have:=kwIf.cnc ((ih c (by simp)).t.thn (zvn.cnc ((ih a (by simp)).t.thn (zvm.cnc (ih b (by simp)).t))))
      simpa using this
   ·rw[shE5 hk,tkE5 hk]
    have hl:=hn.k5 (.inl hk)
    generalize e.args=args at*
    match args,ih,hl with
    | [a],ih,_=>exact zwC.cnc (ih a (by simp)).o
   ·rw[shE6 hk,tkE6 hk]
    have hl:=hn.k6 (.inl hk)
    generalize e.args=args at*
    match args,ih,hl with
    | [a,b],ih,_=>
      have:=(ih a (by simp)).o.thn (zvl.cnc (ih b (by simp)).o)
      simpa using this
   ·rw[shE7 hk,tkE7 hk]
    have hl:=hn.k6 (.inr hk)
    generalize e.args=args at*
    match args,ih,hl with
    | [a,b],ih,_=>
      have:=(ih a (by simp)).o.thn (zwA.cnc (ih b (by simp)).o)
      simpa using this
   ·rw[shE8 hk,tkE8 hk]
    have hl:=hn.k5 (.inr hk)
    have hsm:=zvQ (es:=es) (o:=⟨e.name,e.t,e.v⟩) (hn.c8 hk) (hn.nm (by omega))
    generalize e.args=args at*
    match args,ih,hl with
    | [a],ih,_=>
      have:=(ih a (by simp)).o.thn hsm
      simpa using this
   ·rw[shE9 hk,tkE9 hk,<-zlL (hn.k9 hk)]
    have h0:LxP ([109,101,114,103,101,32]++e.name) [zfJ,(1,e.name)]:=zt5.cnc (LxP.nam (by decide) (hn.nm (by omega)))
    refine znl (f:=f) (g:=g) h0 e.args.length fun j hj=>⟨hn.c9 hk j hj,?_⟩
    have hb:(brV e.t.1 j).toNat<e.args.length:=by
     unfold brV
     split
     ·rename_i ht
      have:=hn.k9 hk ht
      omega
     ·omega
    exact⟨e.args[(brV e.t.1 j).toNat],qac hb,(ih _ (qaf hb)).t⟩
   ·rw[zvN hk,zvW hk]
    obtain⟨hv,hvl⟩:=hn.c10 hk
    have hnm:=LxP.nam (by decide) (hn.nm (by omega))
    unfold zeX znH
    rcases hv with hv|hv
    ·rw[if_neg (by omega),if_neg (by omega)]
     have:=hnm.app (LxP.brk (zpM e.args fun x hx=>(ih x hx).t)) ⟨40,_,rfl,by decide⟩
     simpa using this
    ·rw[if_pos hv,if_pos hv]
     have hpos:e.args.length-1<e.args.length:=by omega
     rw[qac hpos]
     have hj:=zpM (f:=f) (g:=g) (e.args.take (e.args.length-1)) fun x hx=>(ih x (qaN hx)).t
     have hl:=(ih _ (qaf hpos)).o
     have:=hnm.app ((LxP.brk hj).thn (zt4.cnc hl)) ⟨40,_,rfl,by decide⟩
     simpa using this
   ·rw[zvO hk,zvX hk]
    have:=LxP.tok (hn.wd hk)
    simpa [zax]using this
end Go.Proofs.YthmbhfgflijapaaGreatDoor
namespace Go.Proofs.YthmbhfgflijapaaGreatDoor
open Go Go.TL
attribute [local irreducible] TR TO Then zag RetK Sound zab Kf GG zaK
theorem zp1(l:Str)(c:UInt8):numV (l++[c])=10*numV l+((c.toNat:Int)-48):=by
 unfold numV
 rw[qbA];rfl
theorem znq:∀(l:Str) (a:Int),0≤a->(∀c∈l,48≤c.toNat/\c.toNat≤57)->0≤l.foldl (fun(n:Int) (c:UInt8)=>10*n+((c.toNat:Int)-48)) a/\l.foldl (fun(n:Int) (c:UInt8)=>10*n+((c.toNat:Int)-48)) a<(a+1)*10 ^ l.length
 | [],a,h,_=>⟨h,by simp only[List.foldl_nil,qaz,Int.pow_zero];omega⟩
 | c::l,a,h,hd=>by
   have h1:=hd c (by simp)
   have h2:=znq l (10*a+((c.toNat:Int)-48)) (by omega) fun x hx=>hd x (by simp[hx])
   rw[qbU,qal,Int.pow_succ]
   refine⟨h2.1,Int.lt_of_lt_of_le h2.2 ?_⟩
   rw[Int.mul_comm (10 ^ l.length) 10,<-Int.mul_assoc]
   exact Int.mul_le_mul_of_nonneg_right (by omega) (Int.pow_nonneg (by decide))
theorem ziQ{l:Str}(h:∀c∈l,48≤c.toNat/\c.toNat≤57):0≤numV l/\numV l<10 ^ l.length:=by
 have:=znq l 0 (by decide) h
 rw[Int.zero_add,Int.one_mul]at this
 exact this
theorem bsz(s:ByteArray):s.data.toList.length=s.size:=by cases s;rfl
theorem pw5{n:Nat}(h:n≤5):(10:Int) ^ n≤100000:=by
 rcases(show n=0\/n=1\/n=2\/n=3\/n=4\/n=5 by omega)with rfl|rfl|rfl|rfl|rfl|rfl <;> decide
set_option maxRecDepth 1000000 in
theorem zkS (s:ByteArray) (hd:∀c∈s.data.toList,48≤c.toNat/\c.toNat≤57) (hs:s.size≤5) (w:World):
  Calls Tryz.prog 157 #[.string s] w fun e w'=>e= .returned (.int .i64 (numV s.data.toList))/\∃pos,w'=w.iter s pos:=by
 go_enter Tryz.func157,Tryz.ntmps157
 go_wp2
 go_loopw [3] (fun n w'=>∃(pos:Nat),w'=w.iter s pos/\n= .int .i64 (numV (s.data.toList.take pos))/\pos≤s.size) (fun _ w'=>s.size-w'.iterPos w.heap.size)
 case atStart=>exact⟨0,rfl,rfl,qaJ _⟩
 case round=>
  obtain⟨pos,rfl,rfl,hb⟩:=hrel
  by_cases hp:pos<s.size
  ·have hnx:∀ty,(Instr.next (.pointer (some ⟨w.heap.size,0,none⟩)) true ty).run Tryz.prog (w.iter s pos)=_:=fun ty=>run_next_any w s pos ty hp
   go_wp2
   have hl:=bsz s
   have hlt:pos<s.data.toList.length:=by omega
   have hc:=hd _ (qaf hlt)
   have he:s[pos]'hp=s.data.toList[pos]:=by rw[Array.getElem_toList];rfl
   have hsn:numV (s.data.toList.take (pos+1))=10*numV (s.data.toList.take pos)+((s.data.toList[pos].toNat:Int)-48):=by rw[qax hlt,zp1]
   have ha:=ziQ (l:=s.data.toList.take pos) fun x hx=>hd x (qaN hx)
   have hpw:(10:Int) ^ (s.data.toList.take pos).length≤100000:=pw5 (by rw[qbn];omega)
   rw[decode_ascii s pos hp (by rw[he];omega),he]
   refine⟨⟨pos+1,rfl,?_,by omega⟩,by simp;omega⟩
   rw[hsn]
   congr 1
   generalize s.data.toList[pos]=c at*
   generalize numV (s.data.toList.take pos)=a at*
   have hw:∀x:Int,-9223372036854775808≤x->x≤9223372036854775807->RowKit.wrap64 x=x:=fun x h1 h2=>by simp only[RowKit.wrap64];omega
   have hw2:∀x:Int,-2147483648≤x->x≤2147483647->RowKit.wrap32 x=x:=fun x h1 h2=>by simp only[RowKit.wrap32];omega
   simp only
   rw[hw2 _ (by omega) (by omega),hw ((c.toNat:Int)-48) (by omega) (by omega),hw (10*a) (by omega) (by omega),hw _ (by omega) (by omega)]
  ·have hnx:∀ty,(Instr.next (.pointer (some ⟨w.heap.size,0,none⟩)) true ty).run Tryz.prog (w.iter s pos)=_:=fun ty=>run_next_end w s pos ty hp
   go_wp2
   go_ret
   rw[qaI (by rw[bsz];omega)]
   exact⟨rfl,_,rfl⟩
theorem zfC(s:Str)(hd:∀c∈s,48≤c.toNat/\c.toNat≤57)(hs:s.length≤5):Pure Tryz.prog 157 [.s s] (.i (numV s)):=by
 unfold Go.TL.Pure Go.TL.Sound
 refine⟨⟨_,Tryz.func157,by kernel_rfl,rfl⟩,fun m vs h1 h2 h3=>?_⟩
 obtain⟨g1,g2⟩:=h3
 match vs,g1,g2 with
 | ⟨[x]⟩,_,g2=>
   have hx:=(g2 0 _ x rfl rfl).v_eq
   subst hx
   refine Calls.mono (zkS ⟨s.toArray⟩ (by simpa using hd) (by simpa [ByteArray.size]using hs) m.w) ?_
   rintro e w' ⟨rfl,pos,rfl⟩
   obtain⟨st,hm⟩:=zcJ h2 (w':=m.w.iter ⟨s.toArray⟩ pos) ⟨rfl,rfl,rfl,by show m.w.heap.size≤(m.w.heap.push _).size;rw[Array.size_push];omega,fun b hb=>by show(m.w.heap.push _)[b]?=m.w.heap[b]?;rw[Array.getElem?_push,if_neg (by omega)]⟩
   exact⟨_,.ret (.i (numV s)),rfl,st,hm,.t _ _ (.v _),rfl,h1⟩
section rules
variable {P:Program}{n:Nat}{env:Env}{H:Heap}{K:TK}{all:Array Oper}{rest:List Oper}{d:Nat}{ty:TypeId}{pos:String}{aft:Array Edge}
theorem TO.zu4{cargs:List SV}{kt vt:TypeId}{es:List (Value×T)}{f:Operand}{fid:FuncId}{caps:List SV}{args:Array Operand}{ts:Array TypeId}{vs:List SV}
  (hs:Sound P fid cargs [] fun r H'=>r= .ret (.mp 0)/\H'=[.map kt vt es])(hd:Nat.ble (d+1) n=true)
  (hf:env.val f=some (.fn fid caps))(ha:env.vals args.toList=some vs)(hl:Les (vs++caps) cargs)(hu:unders 0 cargs=true)
  (k:TO false P n all rest ((d,.mp H.length)::env) (H++[.map kt vt es]) K):
  TO false P n all (⟨some d,.call { callee:=.value f,args:=args,argTypes:=ts },ty,pos,aft,none⟩::rest) env H K:=
 TO.zds [] hs hd hf ha (by rw[zbp (N:=0) (fun j hj=>by omega) _ hu];exact hl) hu (zeB H) (by simp[SV.ren,names]) (by
  simp only[patch,qah,qaC,Blk.ren]) k
end rules
theorem rgX(c:Nat){g:Prop}{n:Nat}{env0 envF:Env}{H0 HF:Heap}{K:TK}{id':Nat}{l:List Oper}(t:List (SV×Nat×Nat))(hs:List Heap)
  (hp:zi8 Tryz.prog n K c g l.toArray (zbT l.toArray (t.map (·.1)) env0) hs 0 l t hs)(hK:g->K .normal envF HF)
  (hB:(mixB l.toArray ((t.map (·.2)).map fun x=>Nat.blt x.2 x.1) && zs8 l.toArray (t.map (·.2)) hs.length)=true:=by dsimp only[List.map,List.length];decide +kernel)(h0:hs[0]?=some H0:=by exact rfl)
  (hc:Nat.blt c l.length=true:=by exact rfl)(hF:hs[(t.filter efX).length]?=some HF:=by exact rfl)(hE:zbK (zbT l.toArray (t.map (·.1)) env0)=some envF:=by exact rfl):
  TR Tryz.prog n (.region id' l.toArray true) env0 H0 K:=TR.zur c t hs hmix hB h0 hp hc hF hE hK
theorem zmn(k:Nat)(s:Str):zkV (opsL (k:Int)) s=zhF k s:=by
 unfold opsL zhF zkV
 by_cases h0:k=0
 ·subst h0;rw[if_pos (show((0:Nat):Int)=0 from rfl),if_pos (show(0:Nat)=0 from rfl)];simp only[List.find?];repeat' split
  all_goals simp_all
 rw[if_neg (by omega),if_neg h0]
 by_cases h1:k=1
 ·subst h1;rw[if_pos (show((1:Nat):Int)=1 from rfl),if_pos (show(1:Nat)=1 from rfl)];simp only[List.find?];repeat' split
  all_goals simp_all
 rw[if_neg (by omega),if_neg h1]
 by_cases h3:k=3
 ·subst h3;rw[if_pos (show((3:Nat):Int)=3 from rfl),if_pos (show(3:Nat)=3 from rfl)];simp only[List.find?];repeat' split
  all_goals simp_all
 rw[if_neg (by omega),if_neg h3]
 by_cases h4:k=4
 ·subst h4;rw[if_pos (show((4:Nat):Int)=4 from rfl),if_pos (show(4:Nat)=4 from rfl)];simp only[List.find?];repeat' split
  all_goals simp_all
 rw[if_neg (by omega),if_neg h4]
 simp only[List.find?];repeat' split
 all_goals simp_all
set_option maxHeartbeats 4000000 in
theorem zov (l:List Tok) (n:Int) (es:List En) (i k:Nat) (hl:l.length≤1000000) (hS:∀t∈l,t.2.1.length≤1000000000):Sound Tryz.prog 83 [.ref 0 0,.i k] [rdB l n es i] (fun r H'=>r= .ret (.tup [.i (((rdr l es).oper k i).getD 0),.b ((rdr l es).oper k i).isSome])/\H'=[rdB l n es i]):=by
 have hml:(l.map tokT).length=l.length:=qab _
 have h3:=zaG l n es i 3 hl
 have h4:=zaG l n es i 4 hl
 have hr:(rdr l es).oper k i=if((rdr l es).kind i 3 || (rdr l es).kind i 4)=true then zhF k ((rdr l es).txt i) else none:=rfl
 have hb:=zka k
 have hg:=zmn k ((rdr l es).txt i)
 rw[<-hg]at hr
 have hin:((rdr l es).kind i 3 || (rdr l es).kind i 4)=true->i<l.length:=by
  intro h
  unfold Rd.kind at h
  simp only[qar]at h
  by_cases hi:i<l.length
  ·exact hi
  ·rw[qa7 (by omega)]at h;simp at h
 have ht:∀h:i<l.length,(rdr l es).txt i=l[i].2.1:=by
  intro h
  exact zwee
 generalize (rdr l es).oper k i=o at*
 generalize (rdr l es).kind i 3=b3 at*
 generalize (rdr l es).kind i 4=b4 at*
 generalize (rdr l es).txt i=s at*
 clear hg
 cases hbb:(b3 || b4) with
 | false=>
   rw[hbb,if_neg (by decide)]at hr
   subst hr
   cases b3 with
   | true=>cases hbb
   | false=>
     cases b4 with
     | true=>cases hbb
     | false=>
       refine so Tryz.func83 ?_
       repeat' (first|refine wu ?_|exact wkc|intro hc|refine wk2 ?_ ?_|refine wd h3 ?_|refine wd h4 ?_|fail)
       exact RetK.keep 1 rfl (Le.refl _) rfl rfl rfl rfl rfl ⟨rfl,rfl⟩
 | true=>
   rw[hbb,if_pos rfl]at hr
   have hlt:=hin hbb
   have hx:=zeO hlt
   have hs':=ht hlt
   have hsl:=hS _ (qaf hlt)
   generalize l[i]=t at*
   rw[<-hs']at hx hsl
   have ok:=zuj k
   generalize opsL (k:Int)=L at*
   rcases(show b3=true\/(b3=false/\b4=true) by clear hr h3 h4 hb;cases b3 <;> simp_all)with rfl|⟨rfl,rfl⟩
   all_goals
    refine so Tryz.func83 ?_
    repeat' (first|refine wkt ?_|refine wd h3 ?_|refine wd h4 ?_|(apply TO.want;exact rfl)|exact wkc|intro hc|refine wk2 ?_ ?_|fail)
    refine rgX 1 (g:=True) [(.i k,0,1),(.mp 1,1,0),(.ref 0 0,0,1),(.ref 0 0,0,1),(.ref 0 0,0,1),(.t (.sl 3 (l.map tokT)),0,1),(.ref 0 0,0,1),(.ref 0 0,0,1),(.ref 0 2,0,1),(.i i,0,1),(.cp [T.i t.1,.s s,T.i t.2.2] 0,0,1),(.cp [T.i t.1,.s s,T.i t.2.2] 1,0,1),(.s s,0,1),(.tup [.i (o.getD 0),.b o.isSome],1,1),(.tup [.i (o.getD 0),.b o.isSome],0,1),(.i (o.getD 0),0,1),(.b o.isSome,0,1),(.i (o.getD 0),0,1),(.b o.isSome,0,1)] [[rdB l n es i],[rdB l n es i,opB L]] ?_ (fun _=>?_)
    ·repeat' (first|refine wkt ?_|refine wd h1 ?_|exact trivial|exact⟨⟨rfl,rfl⟩,trivial⟩|refine qai (fun env=>?_) ?_|refine qai ?_ ?_|refine wk ?_|exact wkc|intro hc|refine wk2 ?_ ?_|(apply TO.zu4 hb;(iterate 3 exact rfl);exact⟨Le.refl _,trivial⟩;exact rfl)|(refine TO.zkV (id:=1) (r:=o) rfl rfl rfl rfl ok hsl hr.symm ?_)|fail)
     done
    ·repeat' (first|refine wu ?_|exact wkc|intro hc|refine wk2 ?_ ?_|fail)
     exact zwfr
abbrev ExR (l:List Tok)(n:Int)(es:List En)(f:FuncId)(args:List SV)(i:Nat)(r:PR Ex):Prop:=RdS l n es f args i r (.t (exT (r.vl noE)))
theorem zbI(k o t v:Int)(s:Str)(l:List Ex)(hk:(toI k).1=k)(ho:(toI o).1=o)(ht:(toI t).1=t)(hv:(toI v).1=v):exT (mkE k o t v s l)= .ag [T.i k,T.i o,T.i t,T.i v,.s s,.sl 6 (l.map exT)]:=by
 rw[zae]
 unfold mkE exC
 exact zwfi
set_option maxHeartbeats 1000000 in
theorem zkL (l:List Tok) (n:Int) (es:List En) (i:Nat) (hl:l.length≤1000000) (hi:i≤l.length) {r2 r3:PR Ex} (h2:(rdr l es).isAt i [110,111,116]=true->ExR l n es 48 [.i 2] (i+1) r2/\InR l.length (i+1) r2) (h3:ExR l n es 48 [.i 3] i r3/\InR l.length i r3):
  ExR l n es 48 [.i 2] i (if(rdr l es).isAt i [110,111,116]=true then r2.bind fun a j=>.ok (mkE 3 1 0 0 [] [a]) j else r3):=by
 have ht:=zam l n es i [110,111,116] hl hi
 generalize (rdr l es).isAt i [110,111,116]=b at*
 refine Sound.err rfl (fun _=>rfl) ?_
 cases b with
 | true=>
   rw[if_pos rfl]at ht
   rw[if_pos rfl]
   obtain⟨h2,hin⟩:=h2 rfl
   cases r2 with
   | er k c=>
     have hc0:=hin.2
     replace h2:=h2.er
     simp only[PR.vl]at h2
     refine so Tryz.func48 ?_
     repeat' (first|refine wu ?_|exact wkc|intro hc|refine wk2 ?_ ?_|refine wd ht ?_|refine we h2 ?_ ?_|fail)
     exact rdP rfl hc0
   | ok a j=>
     replace h2:=h2.ok
     simp only[PR.vl]at h2
     rw[show(PR.bind (PR.ok a j) fun a j=>PR.ok (mkE 3 1 0 0 [] [a]) j)=PR.ok (mkE 3 1 0 0 [] [a]) j from rfl]
     simp only[PR.vl]
     rw[zbI _ _ _ _ _ _ rfl rfl rfl rfl,qah,qaC]
     rw[zae a]at h2⊢
     unfold exC at h2⊢
     refine so Tryz.func48 ?_
     repeat' (first|refine wu ?_|exact wkc|intro hc|refine wk2 ?_ ?_|refine wd ht ?_|refine we h2 ?_ ?_|fail)
     apply rdV rfl
     ·exact rfl
     ·exact zqa
     all_goals exact rfl
 | false=>
   rw[if_neg (by decide)]at ht
   rw[if_neg (by decide)]
   obtain⟨h3,hin⟩:=h3
   cases r3 with
   | er k c=>
     have hc0:=hin.2
     replace h3:=h3.er
     simp only[PR.vl]at h3
     refine so Tryz.func48 ?_
     repeat' (first|refine wu ?_|exact wkc|intro hc|refine wk2 ?_ ?_|refine wd ht ?_|refine we h3 ?_ ?_|fail)
     exact rdP rfl hc0
   | ok a j=>
     replace h3:=h3.ok
     simp only[PR.vl]at h3⊢
     rw[zae]at h3⊢
     unfold exC at h3⊢
     refine so Tryz.func48 ?_
     repeat' (first|refine wu ?_|exact wkc|intro hc|refine wk2 ?_ ?_|refine wd ht ?_|refine we h3 ?_ ?_|fail)
     apply rdV rfl
     ·exact rfl
     ·exact zqa
     all_goals exact rfl
theorem zr7{l:List Tok}{es:List En}{k i:Nat}{op:Int}(h:(rdr l es).oper k i=some op):i<l.length:=by
 have:=zql h
 rw[zal]at this
 exact this
theorem zr9{R:Rd}{f:Nat->PR Ex}{k:Nat}:∀ {m:Nat} {a:Ex} {i:Nat},R.oper k i=none->R.ops f k m a i= .ok a i
 | 0,_,_,_=>rfl
 | m+1,a,i,h=>by rw[Rd.ops,h]
theorem zp9{k:Nat}{s:Str}{op:Int}(h:zhF k s=some op):0≤op/\op≤100:=by
 unfold zhF at h
 repeat' split at h
 all_goals first|(cases h;exact⟨by decide,by decide⟩)|cases h
theorem zr8{R:Rd}{k i:Nat}{op:Int}(h:R.oper k i=some op):0≤op/\op≤100:=by
 unfold Rd.oper at h
 split at h
 ·exact zp9 h
 ·cases h
abbrev exZ:Blk:=.cells [.t (.v (.int .i64 0)),.t (.v (.int .i64 0)),.t (.v (.int .i64 0)),.t (.v (.int .i64 0)),.t (.v (str [])),.t (.v (.slice none 0 0))]
abbrev exB (e:Ex):Blk:=.cells [.t (T.n e.kind),.t (T.n e.op),.t (T.n e.t),.t (T.n e.v),.t (T.s e.name),.t (T.sl 6 (e.args.map exT))]
theorem ztU(k o t v:Int)(s:Str)(l:List Ex)(hk:(toI k).1=k)(ho:(toI o).1=o)(ht:(toI t).1=t)(hv:(toI v).1=v):exB (mkE k o t v s l)= .cells [.t (T.i k),.t (T.i o),.t (T.i t),.t (T.i v),.t (.s s),.t (.sl 6 (l.map exT))]:=by
 unfold mkE exB
 exact zwfi
set_option maxHeartbeats 4000000 in
theorem zkN (l:List Tok) (n:Int) (es:List En) (i k:Nat) (hl:l.length≤1000000) (hi:i≤l.length) (hS:∀t∈l,t.2.1.length≤1000000000) (hk2:k≠2) (hk6:k≠6) (hk7:k≤7) {f:Nat->PR Ex}
  (hf:∀j,i≤j->j≤l.length->ExR l n es 48 [.i ((k:Int)+1)] j (f j)/\InR l.length (j+1) (f j)):
  ExR l n es 48 [.i k] i ((f i).bind fun a j=>(rdr l es).ops f k (rdr l es).K.length a j):=by
 obtain⟨h1,hin⟩:=hf i (qae _) hi
 generalize hr:((f i).bind fun a j=>(rdr l es).ops f k (rdr l es).K.length a j)=r
 refine Sound.err rfl (fun _=>rfl) ?_
 cases hq:f i with
 | er k c=>
   rw[hq]at h1 hin hr
   have hc0:=hin.2
   replace h1:=h1.er
   simp only[PR.vl]at h1
   refine so Tryz.func48 ?_
   repeat' (first|refine wu ?_|exact wkc|intro hc|refine wk2 ?_ ?_|refine we h1 ?_ ?_|fail)
   exact rdP hr.symm hc0
 | ok a j=>
   rw[hq]at h1 hin hr
   replace h1:=h1.ok
   obtain⟨hj1,hj2⟩:=hin
   simp only[PR.vl]at h1
   simp only[PR.bind]at hr
   rw[zae a]at h1
   unfold exC at h1
   refine so Tryz.func48 ?_
   repeat' (first|refine wkb ?_|refine wk ?_|exact wkc|intro hc|refine wk2 ?_ ?_|refine we h1 ?_ ?_|fail)
   refine TR.zcS (ι:=Nat×Nat×Ex) (fun x=>i≤x.2.1/\x.2.1≤l.length/\l.length-x.2.1≤x.1/\(rdr l es).ops f k x.1 x.2.2 x.2.1=r) (fun x=>l.length-x.2.1) (fun _=>[(0,.ref 0 0),(1,.i k),(5,.ref 2 0),(4,.ref 1 0)]) (fun x=>[rdB l n es x.2.1,exZ,exB x.2.2]) ((rdr l es).K.length,j,a)
    ⟨by show i≤j;omega,hj2,by rw[zal];show l.length-j≤l.length;omega,hr⟩ ⟨rfl,rfl,rfl,rfl,trivial⟩ rfl ?_
   clear h1 hj1 hj2 hr hq
   clear j a
   rintro⟨m,j,a⟩ ⟨q1,q2,q3,q4⟩
   replace q1:i≤j:=q1
   replace q2:j≤l.length:=q2
   replace q3:l.length-j≤m:=q3
   replace q4:(rdr l es).ops f k m a j=r:=q4
   have ho:=zov l n es j k hl hS
   cases hop:(rdr l es).oper k j with
   | none=>
     rw[hop]at ho
     rw[zr9 hop]at q4
     repeat' (first|refine wu ?_|exact wkc|intro hc|refine wk2 ?_ ?_|refine wd ho ?_|fail)
     subst q4
     apply rdV rfl
     ·exact rfl
     ·rw[vlE,zae]
      unfold exC
      exact zqa
     all_goals exact rfl
   | some op=>
     have hlt:=zr7 hop
     have hov:=zr8 hop
     rw[hop]at ho
     simp only[qbm,Option.isSome_some]at ho
     cases m with
     | zero=>exfalso;omega
     | succ m=>
     rw[Rd.ops,hop]at q4
     simp only at q4
     obtain⟨hx,hin⟩:=hf (j+1) (by omega) hlt
     cases hq:f (j+1) with
     | er c2 c=>
       rw[hq]at hx hin q4
       have hc0:=hin.2
       replace hx:=hx.er
       simp only[PR.vl]at hx
       simp only[PR.bind]at q4
       repeat' (first|refine wkt ?_|refine zqh ?_|refine wd ho ?_|exact wkc|intro hc|refine wk2 ?_ ?_|fail)
       refine rgX 5 (g:=False) [(.i op,0,1),(.ag [.t (T.n a.kind),.t (T.n a.op),.t (T.n a.t),.t (T.n a.v),.t (T.s a.name),.t (T.sl 6 (a.args.map exT))],0,1),(.ref 0 0,0,1),(.i k,0,1),(.i ((k:Int)+1),0,1),(.t (.ag [T.n a.kind,T.n a.op,T.n a.t,T.n a.v,T.s a.name,T.sl 6 (a.args.map exT)]),1,0),(.t (.sl 6 [.ag [T.n a.kind,T.n a.op,T.n a.t,T.n a.v,T.s a.name,T.sl 6 (a.args.map exT)],.ag [T.n a.kind,T.n a.op,T.n a.t,T.n a.v,T.s a.name,T.sl 6 (a.args.map exT)]]),1,1),(.t (.ag [T.i 3,T.i op,T.i 0,T.i 0,T.s [],T.sl 6 [.ag [T.n a.kind,T.n a.op,T.n a.t,T.n a.v,T.s a.name,T.sl 6 (a.args.map exT)],.ag [T.n a.kind,T.n a.op,T.n a.t,T.n a.v,T.s a.name,T.sl 6 (a.args.map exT)]]]),1,1),(.t (.v undef),1,0)] [[rdB l n es (j+1),exZ,exB a],[rdB l n es (j+1),exZ,exB a],[rdB l n es (j+1),exZ,.cells [.t (T.i 3),.t (T.i op),.t (T.i 0),.t (T.i 0),.t (T.s []),.t (T.sl 6 [.ag [T.n a.kind,T.n a.op,T.n a.t,T.n a.v,T.s a.name,T.sl 6 (a.args.map exT)],.ag [T.n a.kind,T.n a.op,T.n a.t,T.n a.v,T.s a.name,T.sl 6 (a.args.map exT)]])]]] ?_ (fun h=>h.elim)
       repeat' (first|refine wkt ?_|exact trivial|exact⟨⟨rfl,rfl⟩,trivial⟩|refine zqh ?_|refine qai (fun env=>?_) ?_|refine qai ?_ ?_|refine we hx ?_ ?_|refine wk ?_|exact wkc|intro hc|refine wk2 ?_ ?_|fail)
       repeat' (first|refine zab.panic ?_|refine wk ?_|fail)
       exact rdP q4.symm hc0
     | ok b j2=>
       rw[hq]at hx hin q4
       replace hx:=hx.ok
       obtain⟨hj1,hj2⟩:=hin
       simp only[PR.vl]at hx
       simp only[PR.bind]at q4
       rw[zae b]at hx
       unfold exC at hx
       have hex:exT (mkE 3 op 0 0 [] [a,b])= .ag [T.i 3,T.i op,T.i 0,T.i 0,T.s [],T.sl 6 [.ag [T.n a.kind,T.n a.op,T.n a.t,T.n a.v,T.s a.name,T.sl 6 (a.args.map exT)],.ag [T.n b.kind,T.n b.op,T.n b.t,T.n b.v,T.s b.name,T.sl 6 (b.args.map exT)]]]:=by
        rw[zbI _ _ _ _ _ _ rfl (zd0 (by omega)) rfl rfl,qah,qah,qaC,zae a,zae b];rfl
       repeat' (first|refine wkt ?_|refine zqh ?_|refine wd ho ?_|exact wkc|intro hc|refine wk2 ?_ ?_|fail)
       refine rgX 5 (g:=True) [(.i op,0,1),(.ag [.t (T.n a.kind),.t (T.n a.op),.t (T.n a.t),.t (T.n a.v),.t (T.s a.name),.t (T.sl 6 (a.args.map exT))],0,1),(.ref 0 0,0,1),(.i k,0,1),(.i ((k:Int)+1),0,1),(.t (.ag [T.n b.kind,T.n b.op,T.n b.t,T.n b.v,T.s b.name,T.sl 6 (b.args.map exT)]),1,0),(.t (.sl 6 [.ag [T.n a.kind,T.n a.op,T.n a.t,T.n a.v,T.s a.name,T.sl 6 (a.args.map exT)],.ag [T.n b.kind,T.n b.op,T.n b.t,T.n b.v,T.s b.name,T.sl 6 (b.args.map exT)]]),1,1),(.t (.ag [T.i 3,T.i op,T.i 0,T.i 0,T.s [],T.sl 6 [.ag [T.n a.kind,T.n a.op,T.n a.t,T.n a.v,T.s a.name,T.sl 6 (a.args.map exT)],.ag [T.n b.kind,T.n b.op,T.n b.t,T.n b.v,T.s b.name,T.sl 6 (b.args.map exT)]]]),1,1),(.t (.v undef),1,0)] [[rdB l n es (j+1),exZ,exB a],[rdB l n es j2,exZ,exB a],[rdB l n es j2,exZ,.cells [.t (T.i 3),.t (T.i op),.t (T.i 0),.t (T.i 0),.t (T.s []),.t (T.sl 6 [.ag [T.n a.kind,T.n a.op,T.n a.t,T.n a.v,T.s a.name,T.sl 6 (a.args.map exT)],.ag [T.n b.kind,T.n b.op,T.n b.t,T.n b.v,T.s b.name,T.sl 6 (b.args.map exT)]])]]] ?_ (fun _=>?_)
       ·repeat' (first|refine wkt ?_|exact trivial|exact⟨⟨rfl,rfl⟩,trivial⟩|refine zqh ?_|refine qai (fun env=>?_) ?_|refine qai ?_ ?_|refine we hx ?_ ?_|refine wk ?_|exact wkc|intro hc|refine wk2 ?_ ?_|fail)
        done
       ·by_cases h3:k=3
        ·rw[if_pos h3]at q4
         subst q4
         repeat' (first|refine wu ?_|exact wkc|intro hc|refine wk2 ?_ ?_|fail)
         apply rdV rfl
         ·exact rfl
         ·rw[vlE,hex]
          exact zqa
         all_goals exact rfl
        ·rw[if_neg h3]at q4
         repeat' (first|refine wu ?_|exact wkc|intro hc|refine wk2 ?_ ?_|fail)
         refine zab.next (m,j2,mkE 3 op 0 0 [] [a,b]) ⟨?_,hj2,?_,q4⟩ ?_ ⟨rfl,rfl,rfl,rfl,trivial⟩ ?_
         ·show i≤j2;omega
         ·show l.length-j2≤m;omega
         ·show l.length-j2<l.length-j;omega
         ·show _=[rdB l n es j2,exZ,exB (mkE 3 op 0 0 [] [a,b])]
          rw[ztU _ _ _ _ _ _ rfl (zd0 (by omega)) rfl rfl,qah,qah,qaC,zae a,zae b];rfl
end Go.Proofs.YthmbhfgflijapaaGreatDoor
