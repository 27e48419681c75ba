import Derived.Tactics
import Derived.Tactics2
import Derived.StillTactics
import Derived.Laws.AppendOwn
import Derived.Laws.Runes
import Derived.Laws.CopyRow
import Derived.Laws.Shifts
import Derived.Laws.Rows
import Derived.Laws.BitsLemmas
import Derived.Laws.Tables
import Derived.Laws.NewBlocks
import Derived.Laws.Unary
import Derived.Laws.Strings
import Derived.Laws.NewFold
import Derived.Laws.ShiftsVarLaws
import Derived.Laws.Bits
import Derived.Laws.Alloc2
import Derived.Laws.Bits128
import Derived.Laws.Strings2
import Derived.Laws.Wrap64
import Derived.Laws.ShiftsVar
import Derived.Laws.Closers25
import Derived.Laws.RangeString
import Derived.Laws.Concat
import Derived.Laws.Cells
import Derived.Laws.NewDeep
import Derived.Laws.Pointers
import Derived.Laws.StructEq
import Derived.Laws.Closers25b
import Derived.Laws.StandIn
import Derived.Laws.Bits64b
import Derived.Laws.LoneSync
import Derived.Laws.ByValue
import Derived.Laws.MathBits
import Derived.Laws.Externs
import Derived.Laws.BitsAll
import Derived.Laws.BitsAllLaws
import Derived.Laws.Bits64
import Derived.Laws.OwnMore
import Derived.Laws.Build
import Derived.Laws.ResultCell
import Derived.Laws.Entries
import Derived.Laws.Append
import Derived.Laws.RangeAny
import Derived.Laws.World
import Derived.Laws.Strings3
import Derived.Laws.Sem
import Derived.Laws.Slices
import Derived.Laws.MakeOwn
import Derived.Laws.Small
import Derived.Laws.BytesString
import Derived.Scope
import Derived.FnLit
import Derived.LoopTactic
import Derived.Test.YtlfdkafebmdoiaaGreatPk14
import Derived.Test.YtlfdkafebmdoiaaGreatPk17
import Derived.Test.YtlfdkafebmdoiaaGreatPk22
set_option linter.unusedSimpArgs false
set_option linter.unusedVariables false
namespace Go.Proofs.YtlfdkafebmdoiaaGreat
open Go Go.TL
attribute [local irreducible] TR TO Then InBlock RetK Sound LoopK Kf GG ThenL
def enumIx(s:Str):Nat->List En->Option Nat
 | _,[]=>none
 | k,u::l=>if u.name=s then some k else enumIx s (k+1) l
def Rd.typ(R:Rd)(i:Nat):PR I64:=
 if R.isAt i [98,111,111,108]=true then .ok (toI 1) (i+1) else if R.isAt i [105,110,116]=true then .ok (toI 2) (i+1) else
 (R.id i).bind fun s j=>match enumIx s 0 R.es with
   | some k=>.ok (toI ((3+k:Nat):Int)) j
   | none=>.er (j-1) 6
def Rd.clk(R:Rd):Nat->List OnC->Nat->PR (List OnC)
 | 0,l,i=>.ok l i
 | m+1,l,i=>if R.isAt i [119,104,101,110]=true then(limR l.length 4 i).bind fun _ _=>(R.sampling (i+1)).bind fun o j=>R.clk m (l++[o]) j else .ok l i
def Rd.decl(R:Rd)(i:Nat):PR Decl:=
 (R.id i).bind fun s i=>(R.must [[58]] i).bind fun _ i=>(R.typ i).bind fun t i=>(R.clk R.K.length [] i).bind fun l i=>.ok ⟨s,t,l⟩ i
def Rd.limId(R:Rd)(n most i:Nat):PR Unit:=if R.kind i 1=true then limR n most i else .ok () i
def Rd.decls(R:Rd)(most:Nat)(op:Bool):Nat->List Decl->Nat->PR (List Decl)
 | 0,l,i=>.ok l i
 | m+1,l,i=>(R.limId l.length most i).bind fun _ _=>(R.decl i).bind fun d j=>
   if R.isAt j [59]=false\/op=true/\R.kind (j+1) 1=false then .ok (l++[d]) j else R.decls most op m (l++[d]) (j+1)
def Rd.locals(R:Rd)(i:Nat):PR (List Decl):=
 if R.isAt i [118,97,114]=true then(R.decls 256 true (R.K.length+1) [] (i+1)).bind fun l j=>(R.must [[59]] j).bind fun _ j=>.ok l j else .ok [] i
def Rd.names(R:Rd)(most:Nat)(sep:Str):Nat->List Str->Nat->PR (List Str)
 | 0,l,i=>.ok l i
 | m+1,l,i=>(R.limId l.length most i).bind fun _ _=>(R.id i).bind fun s j=>if R.isAt j sep=true then R.names most sep m (l++[s]) (j+1) else .ok (l++[s]) j
def Rd.left(R:Rd)(i:Nat):PR (List Str):=
 if R.isAt i [40]=true then(R.names 64 [44] (R.K.length+1) [] (i+1)).bind fun l j=>(R.must [[41]] j).bind fun _ j=>.ok l j else(R.id i).bind fun s j=>.ok [s] j
def Rd.equation(R:Rd)(f:Nat->PR Ex)(i:Nat):PR Equ:=
 (R.left i).bind fun l j=>(R.must [[61]] j).bind fun _ j=>(f j).bind fun e j=>(R.must [[59]] j).bind fun _ j=>.ok ⟨l,e⟩ j
def Rd.body(R:Rd)(f:Nat->PR Ex)(au:Nat->PR Auto)(deep:Bool):Nat->List Equ->List Auto->Nat->PR (List Equ×List Auto)
 | 0,q,a,i=>.ok (q,a) i
 | m+1,q,a,i=>
   if R.isAt i [97,117,116,111,109,97,116,111,110]=true then(if deep=true then .er i 3 else(limR a.length 8 i).bind fun _ _=>(au (i+1)).bind fun x j=>R.body f au deep m q (a++[x]) j)
   else if(R.kind i 1 || R.isAt i [40])=true then(limR q.length 256 i).bind fun _ _=>(R.equation f i).bind fun e j=>R.body f au deep m (q++[e]) a j
   else .ok (q,a) i
def Rd.how(R:Rd)(i:Nat):PR Bool:=
 if R.isAt i [99,111,110,116,105,110,117,101]=true then .ok true (i+1) else(R.must [[116,104,101,110]] i).bind fun _ j=>.ok false j
def Rd.trans(R:Rd)(f:Nat->PR Ex)(word:Str):Nat->List Tran->List (Str×Nat)->Nat->PR (List Tran×List (Str×Nat))
 | 0,l,g,i=>.ok (l,g) i
 | m+1,l,g,i=>if R.isAt i word=true then(limR l.length 4 i).bind fun _ _=>(f (i+1)).bind fun c j=>(R.how j).bind fun b j=>(R.id j).bind fun s j=>(R.must [[59]] j).bind fun _ k=>
    R.trans f word m (l++[⟨c,toI 0,b⟩]) (g++[(s,j-1)]) k
   else .ok (l,g) i
def Rd.state(R:Rd)(f:Nat->PR Ex)(bd:Nat->PR (List Equ×List Auto))(i:Nat):PR (Sta×List (Str×Nat)×List (Str×Nat)):=
 (R.id i).bind fun s i=>(R.locals i).bind fun ds i=>(R.trans f [117,110,108,101,115,115] R.K.length [] [] i).bind fun u i=>(R.must [[100,111]] i).bind fun _ i=>
 (bd i).bind fun b i=>(R.trans f [117,110,116,105,108] R.K.length [] [] i).bind fun v i=>(R.must [[100,111,110,101]] i).bind fun _ i=>.ok (.mk s ds b.1 b.2 u.1 v.1,u.2,v.2) i
def Rd.states(R:Rd)(f:Nat->PR Ex)(bd:Nat->PR (List Equ×List Auto)):Nat->List Sta->List (List (Str×Nat))->Nat->PR (List Sta×List (List (Str×Nat)))
 | 0,l,g,i=>.ok (l,g) i
 | m+1,l,g,i=>if R.isAt i [115,116,97,116,101]=true then(limR l.length 8 i).bind fun _ _=>(R.state f bd (i+1)).bind fun x j=>R.states f bd m (l++[x.1]) (g++[x.2.1,x.2.2]) j else .ok (l,g) i
def fixG(ns:List Str):List (Str×Nat)->PR (List Nat)
 | []=>.ok [] 0
 | (s,k)::l=>match idxOf s 0 ns with
   | none=>.er k 6
   | some j=>(fixG ns l).bind fun js _=>.ok (j::js) 0
def fixGs(ns:List Str):List (List (Str×Nat))->PR (List (List Nat))
 | []=>.ok [] 0
 | g::l=>(fixG ns g).bind fun js _=>(fixGs ns l).bind fun jss _=>.ok (js::jss) 0
def setTo(l:List Tran)(js:List Nat):List Tran:=List.zipWith (fun(q:Tran) (j:Nat)=>⟨q.cond,toI (j:Int),q.resume⟩) l js
def setTos:List Sta->List (List Nat)->List Sta
 | s::l,a::b::js=>.mk s.name s.locals s.eqs s.autos (setTo s.unl a) (setTo s.unt b)::setTos l js
 | l,_=>l
def Rd.automaton(R:Rd)(f:Nat->PR Ex)(bd:Nat->PR (List Equ×List Auto))(i:Nat):PR Auto:=
 (R.states f bd R.K.length [] [] i).bind fun x i=>(R.must [[101,110,100]] i).bind fun _ i=>(fixGs (x.1.map Sta.name) x.2).bind fun jss _=>.ok (.mk (setTos x.1 jss)) i
def Rd.bodyD(R:Rd)(f:Nat->PR Ex):Nat->Nat->PR (List Equ×List Auto)
 | 0=>R.body f (fun i=>.er i 5) true (R.K.length+1) [] []
 | b+1=>R.body f (R.automaton f (R.bodyD f b)) false (R.K.length+1) [] []
def Rd.claims(R:Rd)(f:Nat->PR Ex):Nat->List Ex->List Ex->Nat->PR (List Ex×List Ex)
 | 0,a,e,i=>.ok (a,e) i
 | m+1,a,e,i=>
   if R.isAt i [97,115,115,117,109,101]=true then(limR a.length 8 i).bind fun _ _=>(f (i+1)).bind fun x j=>(R.must [[59]] j).bind fun _ j=>R.claims f m (a++[x]) e j
   else if R.isAt i [101,110,115,117,114,101]=true then(limR e.length 8 i).bind fun _ _=>(f (i+1)).bind fun x j=>(R.must [[59]] j).bind fun _ j=>R.claims f m a (e++[x]) j
   else .ok (a,e) i
def Rd.ins(R:Rd)(i:Nat):PR (List Decl):=if R.isAt i [41]=true then .ok [] i else R.decls 64 false (R.K.length+1) [] i
def Rd.node(R:Rd)(f:Nat->PR Ex)(i:Nat):PR Nod:=
 (R.id i).bind fun s i=>(R.must [[40]] i).bind fun _ i=>(R.ins i).bind fun a i=>(R.must [[41],[114,101,116,117,114,110,115],[40]] i).bind fun _ i=>
 (R.decls 64 false (R.K.length+1) [] i).bind fun b i=>(R.must [[41]] i).bind fun _ i=>(R.locals i).bind fun c i=>(R.claims f R.K.length [] [] i).bind fun ae i=>(R.must [[108,101,116]] i).bind fun _ i=>
 (R.bodyD f 3 i).bind fun qa i=>(R.must [[116,101,108]] i).bind fun _ i=>.ok ⟨s,a,b,c,qa.1,qa.2,ae.1,ae.2⟩ i
def Rd.types(R:Rd):Nat->List En->Nat->PR (List En)
 | 0,es,i=>.ok es i
 | m+1,es,i=>if R.isAt i [116,121,112,101]=true then(limR es.length 24 i).bind fun _ _=>(R.id (i+1)).bind fun s i=>(R.must [[61]] i).bind fun _ i=>(R.names 16 [124] (R.K.length+1) [] i).bind fun l i=>(R.must [[59]] i).bind fun _ i=>R.types m (es++[⟨s,l⟩]) i
   else .ok es i
def Rd.nodes(R:Rd):Nat->List Nod->Nat->PR (List Nod)
 | 0,l,i=>.ok l i
 | m+1,l,i=>if R.isAt i [110,111,100,101]=true then(limR l.length 96 i).bind fun _ _=>(R.node R.expr (i+1)).bind fun x j=>R.nodes m (l++[x]) j else .ok l i
def Rd.program(R:Rd)(i:Nat):PR Prog:=
 (R.types R.K.length [] i).bind fun es i=>(Rd.nodes ⟨R.K,es⟩ R.K.length [] i).bind fun l i=>.ok ⟨es,l⟩ i
section
variable {R:Rd}
theorem typ_in{i:Nat}(h:i≤R.K.length):InR R.K.length (i+1) (R.typ i):=by
 unfold Rd.typ
 refine InR.ite (fun hs=>⟨Nat.le_refl _,isAt_lt hs⟩) fun _=>InR.ite (fun hs=>⟨Nat.le_refl _,isAt_lt hs⟩) fun _=>(id_in h).bind fun v j h1 h2=>?_
 split
 ·exact⟨h1,h2⟩
 ·exact⟨by omega,by decide⟩
theorem clk_in:∀(m:Nat) (l:List OnC) {i:Nat},i≤R.K.length->InR R.K.length i (R.clk m l i)
 | 0,l,i,h=>⟨Nat.le_refl _,h⟩
 | m+1,l,i,h=>by
   unfold Rd.clk
   exact InR.ite (fun hs=>(limR_in h).bind fun _ _ _ _=>(sampling_in (isAt_lt hs)).bind fun o j h1 h2=>(clk_in m _ h2).le (by omega)) fun _=>⟨Nat.le_refl _,h⟩
theorem decl_in{i:Nat}(h:i≤R.K.length):InR R.K.length (i+1) (R.decl i):=by
 unfold Rd.decl
 exact(id_in h).bind fun _ j h1 h2=>(must_in _ h2).bind fun _ k h3 h4=>(typ_in h4).bind fun _ k h5 h6=>(clk_in _ _ h6).bind fun _ k h7 h8=>⟨by omega,h8⟩
theorem limId_in{n most i:Nat}(h:i≤R.K.length):InR R.K.length i (R.limId n most i):=by
 unfold Rd.limId
 exact InR.ite (fun _=>limR_in h) fun _=>⟨Nat.le_refl _,h⟩
theorem decls_in{most:Nat}{op:Bool}:∀(m:Nat) (l:List Decl) {i:Nat},i≤R.K.length->InR R.K.length i (R.decls most op m l i)
 | 0,l,i,h=>⟨Nat.le_refl _,h⟩
 | m+1,l,i,h=>by
   unfold Rd.decls
   refine(limId_in h).bind fun _ _ _ _=>(decl_in h).bind fun d j h1 h2=>InR.ite (fun _=>⟨by omega,h2⟩) fun hs=>?_
   have:R.isAt j [59]=true:=by
    cases hq:R.isAt j [59] with
    | true=>rfl
    | false=>exact absurd (.inl hq) hs
   exact(decls_in m _ (isAt_lt this)).le (by omega)
theorem locals_in{i:Nat}(h:i≤R.K.length):InR R.K.length i (R.locals i):=by
 unfold Rd.locals
 exact InR.ite (fun hs=>(decls_in _ _ (isAt_lt hs)).bind fun l j h1 h2=>(must_in _ h2).bind fun _ k h3 h4=>⟨by omega,h4⟩) fun _=>⟨Nat.le_refl _,h⟩
theorem names_in{most:Nat}{sep:Str}:∀(m:Nat) (l:List Str) {i:Nat},i≤R.K.length->InR R.K.length i (R.names most sep m l i)
 | 0,l,i,h=>⟨Nat.le_refl _,h⟩
 | m+1,l,i,h=>by
   unfold Rd.names
   exact(limId_in h).bind fun _ _ _ _=>(id_in h).bind fun s j h1 h2=>InR.ite (fun hs=>(names_in m _ (isAt_lt hs)).le (by omega)) fun _=>⟨by omega,h2⟩
theorem left_in{i:Nat}(h:i≤R.K.length):InR R.K.length (i+1) (R.left i):=by
 unfold Rd.left
 exact InR.ite (fun hs=>(names_in _ _ (isAt_lt hs)).bind fun l j h1 h2=>(must_in _ h2).bind fun _ k h3 h4=>⟨by omega,h4⟩) fun _=>(id_in h).bind fun s j h1 h2=>⟨h1,h2⟩
theorem equation_in{f:Nat->PR Ex}(hf:∀i,i≤R.K.length->InR R.K.length (i+1) (f i)){i:Nat}(h:i≤R.K.length):InR R.K.length (i+1) (R.equation f i):=by
 unfold Rd.equation
 exact(left_in h).bind fun _ j h1 h2=>(must_in _ h2).bind fun _ k h3 h4=>(hf _ h4).bind fun _ k h5 h6=>(must_in _ h6).bind fun _ k h7 h8=>⟨by omega,h8⟩
theorem claims_in{f:Nat->PR Ex}(hf:∀i,i≤R.K.length->InR R.K.length (i+1) (f i)):∀(m:Nat) (a e:List Ex) {i:Nat},i≤R.K.length->InR R.K.length i (R.claims f m a e i)
 | 0,a,e,i,h=>⟨Nat.le_refl _,h⟩
 | m+1,a,e,i,h=>by
   unfold Rd.claims
   exact InR.ite (fun hs=>(limR_in h).bind fun _ _ _ _=>(hf _ (isAt_lt hs)).bind fun x j h1 h2=>(must_in _ h2).bind fun _ j h3 h4=>(claims_in hf m _ _ h4).le (by omega)) fun _=>
    InR.ite (fun hs=>(limR_in h).bind fun _ _ _ _=>(hf _ (isAt_lt hs)).bind fun x j h1 h2=>(must_in _ h2).bind fun _ j h3 h4=>(claims_in hf m _ _ h4).le (by omega)) fun _=>⟨Nat.le_refl _,h⟩
theorem ins_in{i:Nat}(h:i≤R.K.length):InR R.K.length i (R.ins i):=by
 unfold Rd.ins
 exact InR.ite (fun _=>⟨Nat.le_refl _,h⟩) fun _=>decls_in _ _ h
end
theorem numV_snoc(l:Str)(c:UInt8):numV (l++[c])=10*numV l+((c.toNat:Int)-48):=by
 unfold numV
 rw[List.foldl_append];rfl
theorem numV_acc:∀(l:Str) (a:Int),0≤a->(∀c∈l,48≤c.toNat/\c.toNat≤57)->0≤l.foldl (fun(n:Int) (c:UInt8)=>10*n+((c.toNat:Int)-48)) a/\l.foldl (fun(n:Int) (c:UInt8)=>10*n+((c.toNat:Int)-48)) a<(a+1)*10 ^ l.length
 | [],a,h,_=>⟨h,by simp only[List.foldl_nil,List.length_nil,Int.pow_zero];omega⟩
 | c::l,a,h,hd=>by
   have h1:=hd c (by simp)
   have h2:=numV_acc l (10*a+((c.toNat:Int)-48)) (by omega) fun x hx=>hd x (by simp[hx])
   rw[List.foldl_cons,List.length_cons,Int.pow_succ]
   refine⟨h2.1,Int.lt_of_lt_of_le h2.2 ?_⟩
   rw[Int.mul_comm (10 ^ l.length) 10,<-Int.mul_assoc]
   exact Int.mul_le_mul_of_nonneg_right (by omega) (Int.pow_nonneg (by decide))
theorem numV_range{l:Str}(h:∀c∈l,48≤c.toNat/\c.toNat≤57):0≤numV l/\numV l<10 ^ l.length:=by
 have:=numV_acc l 0 (by decide) h
 rw[Int.zero_add,Int.one_mul]at this
 exact this
theorem bsz(s:ByteArray):s.data.toList.length=s.size:=by cases s;rfl
theorem pw5{n:Nat}(h:n≤5):(10:Int) ^ n≤100000:=by
 rcases(show n=0\/n=1\/n=2\/n=3\/n=4\/n=5 by omega)with rfl|rfl|rfl|rfl|rfl|rfl <;> decide
set_option maxRecDepth 1000000 in
theorem number_calls (s:ByteArray) (hd:∀c∈s.data.toList,48≤c.toNat/\c.toNat≤57) (hs:s.size≤5) (w:World):
  Calls Tryz.prog 107 #[.string s] w fun e w'=>e= .returned (.int .i64 (numV s.data.toList))/\∃pos,w'=w.iter s pos:=by
 go_enter Tryz.func107,Tryz.ntmps107
 go_wp2
 go_loopw [3] (fun n w'=>∃(pos:Nat),w'=w.iter s pos/\n= .int .i64 (numV (s.data.toList.take pos))/\pos≤s.size) (fun _ w'=>s.size-w'.iterPos w.heap.size)
 case atStart=>exact⟨0,rfl,rfl,Nat.zero_le _⟩
 case round=>
  obtain⟨pos,rfl,rfl,hb⟩:=hrel
  by_cases hp:pos<s.size
  ·have hnx:∀ty,(Instr.next (.pointer (some ⟨w.heap.size,0,none⟩)) true ty).run Tryz.prog (w.iter s pos)=_:=fun ty=>run_next_any w s pos ty hp
   go_wp2
   have hl:=bsz s
   have hlt:pos<s.data.toList.length:=by omega
   have hc:=hd _ (List.getElem_mem hlt)
   have he:s[pos]'hp=s.data.toList[pos]:=by rw[Array.getElem_toList];rfl
   have hsn:numV (s.data.toList.take (pos+1))=10*numV (s.data.toList.take pos)+((s.data.toList[pos].toNat:Int)-48):=by rw[List.take_succ_eq_append_getElem hlt,numV_snoc]
   have ha:=numV_range (l:=s.data.toList.take pos) fun x hx=>hd x (List.mem_of_mem_take hx)
   have hpw:(10:Int) ^ (s.data.toList.take pos).length≤100000:=pw5 (by rw[List.length_take];omega)
   rw[decode_ascii s pos hp (by rw[he];omega),he]
   refine⟨⟨pos+1,rfl,?_,by omega⟩,by simp;omega⟩
   rw[hsn]
   congr 1
   generalize s.data.toList[pos]=c at*
   generalize numV (s.data.toList.take pos)=a at*
   have hw:∀x:Int,-9223372036854775808≤x->x≤9223372036854775807->RowKit.wrap64 x=x:=fun x h1 h2=>by simp only[RowKit.wrap64];omega
   have hw2:∀x:Int,-2147483648≤x->x≤2147483647->RowKit.wrap32 x=x:=fun x h1 h2=>by simp only[RowKit.wrap32];omega
   simp only
   rw[hw2 _ (by omega) (by omega),hw ((c.toNat:Int)-48) (by omega) (by omega),hw (10*a) (by omega) (by omega),hw _ (by omega) (by omega)]
  ·have hnx:∀ty,(Instr.next (.pointer (some ⟨w.heap.size,0,none⟩)) true ty).run Tryz.prog (w.iter s pos)=_:=fun ty=>run_next_end w s pos ty hp
   go_wp2
   go_ret
   rw[List.take_of_length_le (by rw[bsz];omega)]
   exact⟨rfl,_,rfl⟩
theorem numberP_sound(s:Str)(hd:∀c∈s,48≤c.toNat/\c.toNat≤57)(hs:s.length≤5):Pure Tryz.prog 107 [.s s] (.i (numV s)):=by
 unfold Go.TL.Pure Go.TL.Sound
 refine⟨⟨_,Tryz.func107,by kernel_rfl,rfl⟩,fun m vs h1 h2 h3=>?_⟩
 obtain⟨g1,g2⟩:=h3
 match vs,g1,g2 with
 | ⟨[x]⟩,_,g2=>
   have hx:=(g2 0 _ x rfl rfl).v_eq
   subst hx
   refine Calls.mono (number_calls ⟨s.toArray⟩ (by simpa using hd) (by simpa [ByteArray.size]using hs) m.w) ?_
   rintro e w' ⟨rfl,pos,rfl⟩
   obtain⟨st,hm⟩:=keep_ok h2 (w':=m.w.iter ⟨s.toArray⟩ pos) ⟨rfl,rfl,rfl,by show m.w.heap.size≤(m.w.heap.push _).size;rw[Array.size_push];omega,fun b hb=>by show(m.w.heap.push _)[b]?=m.w.heap[b]?;rw[Array.getElem?_push,if_neg (by omega)]⟩
   exact⟨_,.ret (.i (numV s)),rfl,st,hm,.t _ _ (.v _),rfl,h1⟩
end Go.Proofs.YtlfdkafebmdoiaaGreat
namespace Go.TL
open Go
section rules
variable {P:Program}{all:Array Oper}
def lastG(g:Prop):List Oper->Prop
 | []=>g
 | _::_=>True
def PremS(P:Program)(n:Nat)(K:TK)(g:Prop)(all:Array Oper)(full:Env)(H0:Heap):List Oper->List (SV×Bool)->Prop
 | [],[]=>True
 | o::l,(v,_)::t=>(∀env,TO false P n all [o] (pickE full (slotsOf all o)++env) H0 (NKP K (lastG g l) (putE o.dst v (pickE full (slotsOf all o)++env)) H0))/\PremS P n K g all full H0 l t
 | _,_=>False
theorem PremS.get{n:Nat}{K:TK}{g:Prop}{full:Env}{H0:Heap}:∀ {l:List Oper} {t:List (SV×Bool)},PremS P n K g all full H0 l t->l.length=t.length/\∀(i:Nat) o v b,l[i]?=some o->t[i]?=some (v,b)->
  ∀env,TO false P n all [o] (pickE full (slotsOf all o)++env) H0 (NKP K (lastG g (l.drop (i+1))) (putE o.dst v (pickE full (slotsOf all o)++env)) H0)
 | [],[],_=>⟨rfl,fun i o v b h=>by simp at h⟩
 | [],_::_,h=>h.elim
 | _::_,[],h=>h.elim
 | o::l,(v,b)::t,h=>by
   obtain⟨h1,h2⟩:=h
   obtain⟨g1,g2⟩:=PremS.get h2
   refine⟨by simp[g1],fun i o' v' b' ho hv=>?_⟩
   cases i with
   | zero=>simp at ho hv;obtain⟨rfl,rfl⟩:=hv;subst ho;exact h1
   | succ i=>exact g2 i o' v' b' (by simpa using ho) (by simpa using hv)
theorem TR.regionS{g:Prop}{n:Nat}{env0 envF:Env}{H0:Heap}{K:TK}{id':Nat}{l:List Oper}(t:List (SV×Bool))(hm:P.follows .mixedOrders=true)(hB:mixB l.toArray (t.map (·.2))=true)
  (hp:PremS P n K g l.toArray (fullE l.toArray (t.map (·.1)) env0) H0 l t)(hE:forceL (fullE l.toArray (t.map (·.1)) env0)=some envF)(hne:0<l.length)(hK:g->K .normal envF H0):
  TR P n (.region id' l.toArray true) env0 H0 K:=by
 obtain⟨g1,g2⟩:=hp.get
 intro φ m a h1 h2 h3 h4
 let hs:=List.replicate (((t.map (·.2)).filter id).length+1) H0
 have hsg:∀(c:Nat) H,hs[c]?=some H->H=H0:=by
  intro c H h
  rw[List.getElem?_replicate]at h
  split at h
  ·cases h;rfl
  ·cases h
 have hsi:∀c:Nat,c≤((t.map (·.2)).filter id).length->hs[c]?=some H0:=by
  intro c hc
  rw[List.getElem?_replicate,if_pos (by omega)]
 have s0:Step m ⟨m.A,m.β,m.H,{ m.w with drawn:=m.w.drawn+1 }⟩/\HRel ⟨m.A,m.β,m.H,{ m.w with drawn:=m.w.drawn+1 }⟩:=keep_ok h2 ⟨rfl,rfl,rfl,Nat.le_refl _,fun _ _=>rfl⟩
 refine wpr_of_in (wpIn_region_any hm ?_)
 refine any_mixW [] (G:=fun i=>lastG g (l.drop (i+1))) (vs:=t.map (·.1)) (fl:=t.map (·.2)) (hs:=hs) (HF:=H0) (m0:=m) (fun t ht=>by simp at ht) hB (by simp[g1]) (by simp[g1]) ?_ ?_ (hsi _ (Nat.le_refl _)) (fun hg=>by rw[forceL_eq hE]at hK;exact hK (by have:=hg (l.length-1) (by simp;omega);rw[List.drop_of_length_le (by omega)]at this;exact this)) l.toArray.size (Array.replicate l.toArray.size false)
  ⟨m.A,m.β,m.H,{ m.w with drawn:=m.w.drawn+1 }⟩ a (by simp) ?_ ?_ ?_ s0.1 s0.2 ?_ (h4.step h2 s0.1)
 ·intro i o v ho hv hb c H hc _ env
  obtain⟨⟨v',b⟩,hx,rfl⟩:∃x,t[i]?=some x/\x.1=v:=by simpa using hv
  rw[hsg c H hc]
  exact g2 i o v' b (by simpa using ho) hx env
 ·intro i o v ho hv hb
  obtain⟨⟨v',b⟩,hx,rfl⟩:∃x,t[i]?=some x/\x.1=v:=by simpa using hv
  have hlt:(((t.map (·.2)).take i).filter id).length<((t.map (·.2)).filter id).length:=by
   have hm:∀(fl':List Bool) (x:Nat),fl'.getD x false=true->((fl'.take x).filter id).length<(fl'.filter id).length:=by
    intro fl'
    induction fl' with
    | nil=>intro x h;cases h
    | cons b fl' ih=>
      intro x h
      cases x with
      | zero=>simp at h;subst h;simp
      | succ x=>
        have:=ih x (by simpa using h)
        cases b <;> simp <;> exact this
   exact hm _ i hb
  exact⟨H0,H0,hsi _ (by omega),hsi _ (by omega),fun env=>g2 i o v' b (by simpa using ho) hx env⟩
 ·intro i hi
  rw[Array.getElem?_replicate]at hi
  split at hi <;> cases hi
 ·unfold unl
  have:=List.length_filter_le (fun i=>(Array.replicate l.toArray.size false)[i]? == some false) (List.range l.toArray.size)
  simpa using this
 ·refine⟨0,fun i hi=>⟨fun h=>by omega,fun h=>?_⟩,Nat.zero_le _,by rw[hsi 0 (Nat.zero_le _)];simp[h1],fun j h=>?_⟩
  all_goals
   rw[Array.getElem?_replicate]at h
   split at h <;> cases h
 ·have:envA l.toArray (t.map (·.1)) (fun i=>(Array.replicate l.toArray.size false).getD i false) (List.range l.toArray.size)=[]:=by
   have:∀x:List Nat,envA l.toArray (t.map (·.1)) (fun i=>(Array.replicate l.toArray.size false).getD i false) x=[]:=by
    intro x
    induction x with
    | nil=>rfl
    | cons i x ih=>
      have:(Array.replicate l.toArray.size false).getD i false=false:=by
       rw[Array.getD_eq_getD_getElem?,Array.getElem?_replicate]
       split <;> rfl
      simp only[envA,this,ih]
   exact this _
  rw[this,List.nil_append]
  exact h3.step h2 s0.1
end rules
end Go.TL
namespace Go.Proofs.YtlfdkafebmdoiaaGreat
open Go Go.TL
attribute [local irreducible] TR TO Then InBlock RetK Sound LoopK Kf GG ThenL
theorem rgS{n:Nat}{env0 envF:Env}{H0:Heap}{K:TK}{id':Nat}{l:List Oper}(t:List SV)
  (hp:PremS Tryz.prog n K True l.toArray (fullE l.toArray t env0) H0 l (t.map fun v=>(v,false)))(hK:K .normal envF H0)
  (hB:mixB l.toArray (t.map fun _=>false)=true:=by dsimp only[List.map];decide +kernel)(hne:0<l.length:=by decide)(hE:forceL (fullE l.toArray t env0)=some envF:=by exact rfl):
  TR Tryz.prog n (.region id' l.toArray true) env0 H0 K:=by
 have e1:(t.map fun v=>(v,false)).map (·.1)=t:=by rw[List.map_map];exact List.map_id t
 have e2:(t.map fun v=>(v,false)).map (·.2)=t.map fun _=>false:=by rw[List.map_map];rfl
 exact TR.regionS (t.map fun v=>(v,false)) hmix (by rw[e2];exact hB) (by rw[e1];exact hp) (by rw[e1];exact hE) hne fun _=>hK
set_option maxHeartbeats 4000000 in
theorem neg_sound (l:List Tok) (n:Int) (es:List En) (i:Nat) (hl:l.length≤1000000) (hi:i≤l.length):Sound Tryz.prog 96 [.ref 0 0] [rdB l n es i] (fun r H'=>r= .ret (.b ((rdr l es).neg i))/\H'=[rdB l n es i]):=by
 have hml:(l.map tokT).length=l.length:=List.length_map _
 have h1:=is_sound l n es i [45] hl
 have hr:(rdr l es).neg i=((rdr l es).isAt i [45] && (rdr l es).kind (i+1) 2):=rfl
 have hk:(rdr l es).kind (i+1) 2=match l[i+1]? with|some t=>decide (t.1=2)|none=>false:=by
  unfold Rd.kind
  simp only[List.getElem?_map]
  cases l[i+1]? <;> rfl
 generalize (rdr l es).neg i=b at*
 generalize (rdr l es).kind (i+1) 2=bk at*
 generalize (rdr l es).isAt i [45]=b1 at*
 subst hr
 cases b1 with
 | false=>
   refine so Tryz.func96 ?_
   refine wkt ?_
   refine rgS [.ref 0 0,.b false,.b false,.t (.v undef),.t (.v undef),.t (.v undef),.t (.v undef),.t (.v undef),.t (.v undef),.t (.v undef),.t (.v undef),.t (.v undef),.t (.v undef),.t (.v undef),.b false,.b false,.t (.v undef),.t (.v undef),.t (.v undef),.t (.v undef),.t (.v undef),.t (.v undef),.t (.v undef),.t (.v undef),.t (.v undef),.t (.v undef),.t (.v undef),.t (.v undef),.t (.v undef),.b false,.b false] ?_ ?_
   ·repeat' (first|refine wkt ?_|refine wd h1 ?_|exact trivial|exact⟨⟨rfl,rfl⟩,trivial⟩|refine And.intro (fun env=>?_) ?_|refine wk ?_|exact wkc|intro hc|refine wk2 ?_ ?_|fail)
    done
   ·repeat' (first|refine wu ?_|exact wkc|intro hc|refine wk2 ?_ ?_|fail)
    exact RetK.keep 1 rfl (Le.refl _) rfl rfl rfl rfl rfl ⟨rfl,rfl⟩
 | true=>
   by_cases hlt:i+1<l.length
   ·have hx:=at_tok hlt
    have hx':(l.map tokT)[((i:Int)+1).toNat]?=some (.ag [T.i l[i+1].1,.s l[i+1].2.1,T.i l[i+1].2.2]):=by rw[show((i:Int)+1).toNat=i+1 by omega];exact hx
    rw[List.getElem?_eq_getElem hlt]at hk
    simp only at hk
    generalize l[i+1]=t at*
    by_cases h2:t.1=2
    ·rw[decide_eq_true h2]at hk
     subst hk
     refine so Tryz.func96 ?_
     refine wkt ?_
     refine rgS [.ref 0 0,.b true,.b true,.ref 0 0,.ref 0 0,.ref 0 2,.i i,.i ((i:Int)+1),.ref 0 0,.ref 0 0,.ref 0 0,.t (.sl 3 (l.map tokT)),.i (l.map tokT).length,.b true,.b true,.b true,.ref 0 0,.ref 0 0,.ref 0 0,.t (.sl 3 (l.map tokT)),.ref 0 0,.ref 0 0,.ref 0 2,.i i,.i ((i:Int)+1),.cp [T.i t.1,.s t.2.1,T.i t.2.2] 0,.cp [T.i t.1,.s t.2.1,T.i t.2.2] 0,.i t.1,.b true,.b true,.b true] ?_ ?_
     ·repeat' (first|refine wkt ?_|refine wd h1 ?_|exact trivial|exact⟨⟨rfl,rfl⟩,trivial⟩|refine And.intro (fun env=>?_) ?_|refine wk ?_|exact wkc|intro hc|refine wk2 ?_ ?_|fail)
      done
     ·repeat' (first|refine wu ?_|exact wkc|intro hc|refine wk2 ?_ ?_|fail)
      exact RetK.keep 1 rfl (Le.refl _) rfl rfl rfl rfl rfl ⟨rfl,rfl⟩
    ·rw[decide_eq_false h2]at hk
     subst hk
     refine so Tryz.func96 ?_
     refine wkt ?_
     refine rgS [.ref 0 0,.b true,.b true,.ref 0 0,.ref 0 0,.ref 0 2,.i i,.i ((i:Int)+1),.ref 0 0,.ref 0 0,.ref 0 0,.t (.sl 3 (l.map tokT)),.i (l.map tokT).length,.b true,.b true,.b true,.ref 0 0,.ref 0 0,.ref 0 0,.t (.sl 3 (l.map tokT)),.ref 0 0,.ref 0 0,.ref 0 2,.i i,.i ((i:Int)+1),.cp [T.i t.1,.s t.2.1,T.i t.2.2] 0,.cp [T.i t.1,.s t.2.1,T.i t.2.2] 0,.i t.1,.b false,.b false,.b false] ?_ ?_
     ·repeat' (first|refine wkt ?_|refine wd h1 ?_|exact trivial|exact⟨⟨rfl,rfl⟩,trivial⟩|refine And.intro (fun env=>?_) ?_|refine wk ?_|exact wkc|intro hc|refine wk2 ?_ ?_|fail)
      done
     ·repeat' (first|refine wu ?_|exact wkc|intro hc|refine wk2 ?_ ?_|fail)
      exact RetK.keep 1 rfl (Le.refl _) rfl rfl rfl rfl rfl ⟨rfl,rfl⟩
   ·rw[List.getElem?_eq_none (by omega)]at hk
    simp only at hk
    subst hk
    refine so Tryz.func96 ?_
    refine wkt ?_
    refine rgS [.ref 0 0,.b true,.b true,.ref 0 0,.ref 0 0,.ref 0 2,.i i,.i ((i:Int)+1),.ref 0 0,.ref 0 0,.ref 0 0,.t (.sl 3 (l.map tokT)),.i (l.map tokT).length,.b false,.b false,.b false,.t (.v undef),.t (.v undef),.t (.v undef),.t (.v undef),.t (.v undef),.t (.v undef),.t (.v undef),.t (.v undef),.t (.v undef),.t (.v undef),.t (.v undef),.t (.v undef),.t (.v undef),.b false,.b false] ?_ ?_
    ·repeat' (first|refine wkt ?_|refine wd h1 ?_|exact trivial|exact⟨⟨rfl,rfl⟩,trivial⟩|refine And.intro (fun env=>?_) ?_|refine wk ?_|exact wkc|intro hc|refine wk2 ?_ ?_|fail)
     done
    ·repeat' (first|refine wu ?_|exact wkc|intro hc|refine wk2 ?_ ?_|fail)
     exact RetK.keep 1 rfl (Le.refl _) rfl rfl rfl rfl rfl ⟨rfl,rfl⟩
end Go.Proofs.YtlfdkafebmdoiaaGreat
