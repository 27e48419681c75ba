import Derived.Shelf.LaysM
import Derived.KernelRfl
import Derived.Test.YtjgmcnemcembmaaGreatDoorProg
import Derived.Shelf.Strings.OnBuilder
import Derived.Shelf.Strings.Repeat
import Derived.Shelf.Strconv.Itoa3
import Derived.Shelf.SlSorted.Search
import Derived.Laws.BytesString
import Derived.DeepKeys5
import Derived.Test.YtjgmcnemcembmaaGreatDoorPk9
import Derived.Test.YtjgmcnemcembmaaGreatDoorPk14
import Derived.Test.YtjgmcnemcembmaaGreatDoorPk21
set_option linter.unusedSimpArgs false
set_option linter.unusedVariables false
namespace Go.Proofs.YtjgmcnemcembmaaGreatDoor
open Go Go.TL
attribute [local irreducible] TR TO Then InBlock RetK Sound LoopK Kf GG ThenL
theorem rgS{n:Nat}{env0 envF:Env}{H0:Heap}{K:TK}{id':Nat}{l:List Oper}(t:List SV)
  (hp:PremS Tryz.prog n K True l.toArray (fullE l.toArray t env0) H0 l (t.map fun v=>(v,false)))(hK:K .normal envF H0)
  (hB:mixB l.toArray (t.map fun _=>false)=true:=by dsimp only[List.map];decide +kernel)(hne:0<l.length:=by decide)(hE:forceL (fullE l.toArray t env0)=some envF:=by exact rfl):
  TR Tryz.prog n (.region id' l.toArray true) env0 H0 K:=by
 have e1:(t.map fun v=>(v,false)).map (·.1)=t:=by rw[List.map_map];exact List.map_id t
 have e2:(t.map fun v=>(v,false)).map (·.2)=t.map fun _=>false:=by rw[List.map_map];rfl
 exact TR.regionS (t.map fun v=>(v,false)) hmix (by rw[e2];exact hB) (by rw[e1];exact hp) (by rw[e1];exact hE) hne fun _=>hK
end Go.Proofs.YtjgmcnemcembmaaGreatDoor
namespace Go.Proofs.YtjgmcnemcembmaaGreatDoor
open Go Go.Shelf Go.Proofs
def renF:Nat->Nat
 | 99=>90
 | 104=>150
 | 105=>53
 | 121=>132
 | 129=>174
 | 145=>149
 | 156=>25
 | 165=>54
 | 166=>52
 | 169=>27
 | 170=>91
 | 171=>133
 | 206=>121
 | 207=>164
 | 211=>160
 | 212=>89
 | 214=>153
 | 217=>169
 | 219=>163
 | 220=>159
 | 224=>171
 | 225=>170
 | 240=>88
 | 241=>92
 | 243=>154
 | 246=>161
 | 263=>119
 | 264=>120
 | 266=>178
 | 267=>172
 | 276=>118
 | 277=>122
 | 283=>165
 | 284=>166
 | 285=>167
 | 286=>168
 | 314=>179
 | 317=>173
 | 318=>175
 | 319=>176
 | 320=>177
 | 337=>180
 | 338=>181
 | 347=>182
 | 348=>183
 | 349=>184
 | 350=>185
 | 351=>186
 | 352=>187
 | 353=>188
 | 354=>189
 | 355=>190
 | 356=>191
 | 357=>192
 | 358=>193
 | 359=>194
 | 360=>195
 | 361=>196
 | 362=>198
 | 366=>199
 | 367=>205
 | n=>n
def renT:Nat->Nat
 | 22=>144
 | 24=>123
 | 25=>191
 | 26=>114
 | 27=>197
 | 31=>51
 | 37=>68
 | 41=>173
 | 42=>184
 | 46=>141
 | 47=>207
 | 51=>165
 | 52=>209
 | 53=>168
 | 54=>199
 | 55=>203
 | 59=>189
 | 60=>190
 | 67=>76
 | 70=>67
 | 71=>69
 | 72=>70
 | 73=>115
 | 74=>110
 | 75=>111
 | 76=>112
 | 77=>113
 | 80=>78
 | 81=>145
 | 83=>157
 | 84=>196
 | 104=>147
 | 109=>142
 | 110=>143
 | 111=>133
 | 112=>186
 | 114=>46
 | 127=>119
 | 146=>166
 | 147=>167
 | 148=>169
 | 149=>170
 | 151=>208
 | 164=>163
 | 165=>164
 | 166=>171
 | 171=>198
 | 172=>200
 | 173=>201
 | 174=>202
 | 211=>204
 | 212=>205
 | 213=>206
 | 232=>210
 | 233=>211
 | 238=>212
 | 239=>213
 | 240=>214
 | 241=>215
 | 242=>216
 | 243=>217
 | 244=>218
 | 245=>219
 | 246=>220
 | 247=>221
 | 248=>222
 | 249=>223
 | n=>n
def renG:Nat->Nat
 | 1=>0
 | 17=>1
 | 18=>2
 | 19=>3
 | n=>n
def ren:Ren:=⟨renF,renT,renG⟩
set_option maxRecDepth 100000 in
theorem shItoa0:Lays.n171 Tryz.prog ren:=by
 constructor <;> first|kernel_rfl|(intro w;kernel_rfl)
set_option maxRecDepth 100000 in
theorem shItoa:LaysM.n171 Tryz.prog ren:=by
 constructor <;> first|exact shItoa0|kernel_rfl|(intro w;kernel_rfl)
set_option maxRecDepth 100000 in
theorem shJoin:Lays.n156 Tryz.prog ren:=by
 constructor <;> first|kernel_rfl|(intro w;kernel_rfl)
set_option maxRecDepth 100000 in
theorem shRepeat:Lays.n105 Tryz.prog ren:=by
 constructor <;> first|kernel_rfl|(intro w;kernel_rfl)
end Go.Proofs.YtjgmcnemcembmaaGreatDoor
namespace Go.Proofs.YtjgmcnemcembmaaGreatDoor
open Go Go.TL Go.Shelf
theorem keeps_below{w w':World}(h:RowKit.Below w.heap.size w w'):Keeps w w':=⟨h.os,h.tape,h.output,h.size,h.block⟩
theorem below_refl(w:World):RowKit.Below w.heap.size w w:=⟨rfl,rfl,rfl,Nat.le_refl _,fun _ _=>rfl⟩
theorem pure_below{f:FuncId}{args:List SV}{l:Str}(hc:Callable Tryz.prog f)
  (h:∀(m:M) (vs:Array Value),HRel m->m.H=[]->ARel m args vs->Calls Tryz.prog f vs m.w fun e w'=>e= .returned (str l)/\RowKit.Below m.w.heap.size m.w w'):Pure Tryz.prog f args (.s l):=by
 unfold Go.TL.Pure Go.TL.Sound
 refine⟨hc,fun m vs h1 h2 h3=>Calls.mono (h m vs h2 h1 h3) ?_⟩
 rintro e w' ⟨rfl,hb⟩
 obtain⟨st,hm⟩:=keep_ok h2 (keeps_below hb)
 exact⟨_,.ret (.s l),rfl,st,hm,.t _ _ (.v _),rfl,h1⟩
theorem shX72:Go.Proofs.Builder.X72 Tryz.prog ren:=by constructor <;> kernel_rfl
theorem shExtra:Go.Proofs.Builder.Extra Tryz.prog ren:=by
 constructor <;> first|exact shX72|kernel_rfl|(intro w;kernel_rfl)|decide
theorem itoaP_sound(n:Int)(h:-9223372036854775808≤n/\n≤9223372036854775807):Pure Tryz.prog 133 [.i n] (.s (Go.Lib.itoa n)):=by
 refine pure_below ⟨_,Tryz.func133,by kernel_rfl,rfl⟩ fun m vs hm _ hA=>?_
 obtain⟨g1,g2⟩:=hA
 match vs,g1,g2 with
 | ⟨[x]⟩,_,g2=>
   have hx:=(g2 0 _ x rfl rfl).v_eq
   subst hx
   have ht:Go.Lib.TabIs Tryz.prog m.w "internal/strconv.uint64pow10" .u64 Go.Lib.pow10Tab:=by
    obtain⟨_,e,f,hg⟩:=hm.glob gPow powA gtab_pow
    unfold Go.Lib.TabIs World.var?
    rw[show Tryz.prog.globalNamed "internal/strconv.uint64pow10"=some gPow by kernel_rfl]
    simp only[Option.bind_some]
    rw[hg]
    kernel_rfl
   refine Calls.mono (Go.Proofs.Any.strconv_Itoa shItoa n h.1 h.2 m.w ht) ?_
   rintro e w' ⟨rfl,k,os,rfl⟩
   exact⟨rfl,Go.Proofs.below_grown_sl _ _ _ _ (Nat.le_refl _)⟩
theorem repeatP_sound(s:Str)(c:Nat)(hc:c≤9223372036854775807)(hl:s.length*c≤140737488355328):Pure Tryz.prog 53 [.s s,.i c] (.s (Go.Lib.repeatL s c)):=by
 refine pure_below ⟨_,Tryz.func53,by kernel_rfl,rfl⟩ fun m vs hm _ hA=>?_
 obtain⟨g1,g2⟩:=hA
 match vs,g1,g2 with
 | ⟨[x,y]⟩,_,g2=>
   have hx:=(g2 0 _ x rfl rfl).v_eq
   have hy:=(g2 1 _ y rfl rfl).v_eq
   subst hx hy
   refine Calls.mono (Go.Proofs.Any.strings_Repeat shRepeat shExtra ⟨s.toArray⟩ c m.w hc (by simpa [ByteArray.size]using hl)) ?_
   rintro e w' ⟨rfl,hb⟩
   exact⟨rfl,hb⟩
theorem joinP_sound(l:List Str)(sep:Str)(hl:l.length≤140737488355328)(hj:(Go.Lib.join l sep).length≤140737488355328):Pure Tryz.prog 25 [.t (.sl 1 (l.map T.s)),.s sep] (.s (Go.Lib.join l sep)):=by
 refine pure_below ⟨_,Tryz.func25,by kernel_rfl,rfl⟩ fun m vs hm _ hA=>?_
 obtain⟨g1,g2⟩:=hA
 match vs,g1,g2 with
 | ⟨[x,y]⟩,_,g2=>
   have hx:=g2 0 _ x rfl rfl
   have hy:=(g2 1 _ y rfl rfl).v_eq
   subst hy
   have hnone:∀a c,l=[]->Calls Tryz.prog 25 #[.slice a 0 c,str sep] m.w fun e w'=>e= .returned (str (Go.Lib.join l sep))/\RowKit.Below m.w.heap.size m.w w':=fun a c he=>by
    refine Calls.mono (Go.Proofs.Any.strings_Join_none shJoin shExtra a c ⟨sep.toArray⟩ m.w) ?_
    rintro e w' ⟨rfl,rfl⟩
    subst he
    exact⟨rfl,below_refl _⟩
   generalize hq:T.sl 1 (l.map T.s)=q at hx
   cases hx with
   | t _ _ hx=>
   cases hx with
   | v x=>cases hq
   | ag=>cases hq
   | nil sz=>
     injection hq with _ h2
     exact hnone _ _ (List.map_eq_nil_iff.1 h2)
   | empty sz a=>
     injection hq with _ h2
     exact hnone _ _ (List.map_eq_nil_iff.1 h2)
   | sl sz es b off cap f hcap hsz hA2 hw h1 hr=>
     injection hq with e1 e2
     subst e1 e2
     rw[List.length_map]
     rw[List.length_map]at hcap hA2 hw h1
     by_cases hne:l=[]
     ·have h0:=hnone (some ⟨b,off,none⟩) cap hne
      rw[hne]at h0⊢
      exact h0
     ·have hpos:0<l.length:=List.length_pos_iff.2 hne
      have hlen:(l.map fun s=>(⟨s.toArray⟩:ByteArray)).length=l.length:=List.length_map _
      have hmm:(l.map fun s=>(⟨s.toArray⟩:ByteArray)).map (·.data.toList)=l:=by
       rw[List.map_map]
       exact(List.map_congr_left fun _ _=>rfl).trans (List.map_id l)
      have hc:=Go.Proofs.Any.strings_Join shJoin shExtra b off cap (l.map fun s=>⟨s.toArray⟩) ⟨sep.toArray⟩ m.w (fun j x hx=>by
       rw[List.getElem?_map]at hx
       cases hq:l[j]? with
       | none=>rw[hq]at hx;cases hx
       | some s=>
         rw[hq]at hx;cases hx
         have hjl:=(List.getElem?_eq_some_iff.1 hq).1
         have g:=hr j (T.s s) 0 (T.s s) (by rw[List.getElem?_map,hq];rfl) rfl
         have e:=hw j 0 hjl (by decide)
         rw[g.v_inv]at e
         have he:off+(j*1+0)=off+j:=by omega
         rw[he]at e
         exact e) (hm.inA b off (by have:=hA2 0 0 hpos (by decide);simpa using this)) (by rw[hlen];exact hl) (by rw[hlen];exact hcap) (by rw[hmm];exact hj)
      rw[hmm,hlen]at hc
      exact hc
end Go.Proofs.YtjgmcnemcembmaaGreatDoor
namespace Go.TL
open Go
theorem TO.byteStr{P:Program}{n:Nat}{env:Env}{H:Heap}{K:TK}{all:Array Oper}{rest:List Oper}{q:Bool}{d:Nat}{ty:TypeId}{pos:String}{aft:Array Edge}{t t' e:TypeId}{x:Operand}{c:UInt8}(hd:Nat.ble (d+1) n=true)
  (hs:P.underlying t=some (.slice e))(he:P.underlying e=some (.int .u8))(ht:P.underlying t'=some .string)(hx:env.val x=some (.t (.sl 1 [.v (.int .u8 (c.toNat:Int))])))
  (k:TO q P n all rest ((d,.s [c])::env) H K):TO q P n all (⟨some d,.convert t t' x,ty,pos,aft,none⟩::rest) env H K:=
 TO.op hd (fun m ac h1 h2 h3=>by
  have hr:=h3.val hx
  generalize hq:ac.eval x=z at hr
  cases hr with
  | t _ _ hr=>
    cases hr with
    | sl sz es b off cap f hcap hsz hA hw h1 h=>
      refine⟨str [c],fun w' hw'=>?_,.t _ _ (.v _)⟩
      have hf:=(h 0 _ 0 _ rfl rfl).v_inv
      have hcell:=hw 0 0 (by simp) (by simp)
      rw[hf,show off+(0*1+0)=off by omega]at hcell
      have hb:b<m.w.heap.size:=h2.inA b off (by have:=hA 0 0 (by simp) (by simp);simpa using this)
      have hl:=run_loadCells_list (P:=P) (w:=w') ⟨b,off,none⟩ [.int .u8 (c.toNat:Int)] (fun j v hj=>by
       cases j with
       | zero=>simp at hj;subst hj;show w'.cell? ⟨b,off+0,none⟩=_;rw[Nat.add_zero,hw'.cell hb];exact hcell
       | succ j=>simp at hj)
      have h4:=run_bytesToString (P:=P) w' ⟨b,off,none⟩ 1 cap [(c.toNat:Int)] hl
      simp only[execOp,hq]
      rw[Sem.run_bind,run_convert_bytes_string w' t t' e _ _ _ hs he ht]
      erw [h4]
      simp[Result.andThen,str]
      rfl) k
end Go.TL
set_option linter.unusedVariables false
set_option linter.unusedSimpArgs false
namespace Go.Proofs.YtjgmcnemcembmaaGreatDoor
open Go Go.TL
attribute [local irreducible] TR TO Then InBlock RetK Sound LoopK Kf GG ThenL
abbrev bBool:Str:=[98,111,111,108]
abbrev bInt:Str:=[105,110,116]
def nameT(es:List En)(t:Int):Str×Bool:=if t=1 then(bBool,true) else if t=2 then(bInt,true) else((enumOf es t).1.name,(enumOf es t).2)
def knownT(es:List En)(t:Int):Bool:=(nameT es t).2
def textT(es:List En)(t v:Int):Str×Int:=
 if knownT es t=false then([],10) else if hasT es t v=false then([],14) else if t=1 then(if v=1 then([116,114,117,101],0) else([102,97,108,115,101],0)) else if t=2 then(Go.Lib.itoa v,0)
 else(((enumOf es t).1.tags[v.toNat]?).getD [],0)
theorem nameT_sound(es:List En)(t:I64):Pure Tryz.prog 93 [.t (ensT es),.n t] (.tup [.s (nameT es t.1).1,.b (nameT es t.1).2]):=by
 have he:=enum_sound es t
 unfold nameT
 obtain⟨t,ht1,ht2⟩:=t
 dsimp only[SV.n]at he⊢
 generalize enumOf es t=u at*
 unfold enT at he
 refine so Tryz.func93 ?_
 repeat' (first|refine wu ?_|exact wkc|intro hc|refine wk2 ?_ ?_|refine wv he ?_|fail)
 all_goals first
  | (rw[if_pos (by assumption)];exact wkr)
  | (rw[if_neg (by assumption),if_pos (by assumption)];exact wkr)
  | (rw[if_neg (by assumption),if_neg (by assumption)];exact wkr)
theorem validT_sound(es:List En)(t:I64):Pure Tryz.prog 131 [.t (ensT es),.n t] (.b (knownT es t.1)):=by
 have he:=nameT_sound es t
 unfold knownT
 generalize nameT es t.1=u at*
 refine so Tryz.func131 ?_
 repeat' (first|refine wu ?_|exact wkc|intro hc|refine wk2 ?_ ?_|refine wv he ?_|fail)
 exact wkr
end Go.Proofs.YtjgmcnemcembmaaGreatDoor
namespace Go.Proofs.YtjgmcnemcembmaaGreatDoor
open Go Go.TL
attribute [local irreducible] TR TO Then InBlock RetK Sound LoopK Kf GG ThenL
theorem fmtBool_sound(b:Bool):Pure Tryz.prog 132 [.b b] (.s (if b=true then[116,114,117,101] else[102,97,108,115,101])):=by
 have h:Pure Tryz.prog 153 [.b b] (.s (if b=true then[116,114,117,101] else[102,97,108,115,101])):=by
  cases b
  all_goals
   refine so Tryz.func153 ?_
   repeat' (first|refine wu ?_|exact wkc|intro hc|refine wk2 ?_ ?_|fail)
   exact wkr
 generalize (if b=true then[116,114,117,101] else[102,97,108,115,101]:Str)=s at*
 refine so Tryz.func132 ?_
 repeat' (first|refine wu ?_|exact wkc|intro hc|refine wk2 ?_ ?_|refine wv h ?_|fail)
 exact wkr
theorem enumOf_in{es:List En}{t:Int}(hk:knownT es t=true)(h1:t≠1)(h2:t≠2):3≤t/\t-3<es.length/\∃h:(t-3).toNat<es.length,(enumOf es t).1=es[(t-3).toNat]:=by
 unfold knownT nameT at hk
 rw[if_neg h1,if_neg h2]at hk
 simp only at hk
 by_cases h:3≤t/\t-3<es.length
 ·have hlt:(t-3).toNat<es.length:=by omega
  refine⟨h.1,h.2,hlt,?_⟩
  unfold enumOf
  rw[if_pos h,List.getElem?_eq_getElem hlt]
 ·unfold enumOf at hk
  rw[if_neg h]at hk
  cases hk
theorem tag_in{es:List En}{t v:Int}(h2:t≠2)(h1:t≠1)(hh:hasT es t v=true):0≤v/\∃h:v.toNat<(enumOf es t).1.tags.length,(enumOf es t).1.tags[v.toNat]?=some ((enumOf es t).1.tags[v.toNat]):=by
 unfold hasT sizeOfT at hh
 rw[if_neg h2,if_neg h1,if_neg h2]at hh
 simp only[Bool.and_eq_true,decide_eq_true_eq]at hh
 have:v.toNat<(enumOf es t).1.tags.length:=by omega
 exact⟨hh.1,this,List.getElem?_eq_getElem this⟩
set_option maxHeartbeats 4000000 in
theorem textT_sound (es:List En) (t v:I64) (hl:es.length≤1000000000) (htl:∀u∈es,u.tags.length≤1000000000):Pure Tryz.prog 105 [.t (ensT es),.n t,.n v] (.tup [.s (textT es t.1 v.1).1,.i (textT es t.1 v.1).2]):=by
 have hv:=validT_sound es t
 have hh:=has_sound es t v
 have hf:=fun b=>fmtBool_sound b
 have hi:=itoaP_sound v.1 v.2
 obtain⟨t,ht1,ht2⟩:=t
 obtain⟨v,hv1,hv2⟩:=v
 dsimp only[SV.n]at hv hh hi⊢
 have hml:(es.map enT).length=es.length:=List.length_map _
 generalize hz:textT es t v=z
 unfold textT at hz
 cases hk:knownT es t with
 | false=>
   rw[hk]at hv
   rw[if_pos hk]at hz
   subst hz
   refine so Tryz.func105 ?_
   repeat' (first|refine wu ?_|exact wkc|intro hc|refine wk2 ?_ ?_|refine wv hv ?_|fail)
   exact wkr
 | true=>
 rw[hk]at hv
 rw[if_neg (by rw[hk];decide)]at hz
 cases hq:hasT es t v with
 | false=>
   rw[hq]at hh
   rw[if_pos hq]at hz
   subst hz
   refine so Tryz.func105 ?_
   repeat' (first|refine wu ?_|exact wkc|intro hc|refine wk2 ?_ ?_|refine wv hv ?_|refine wv hh ?_|fail)
   exact wkr
 | true=>
 rw[hq]at hh
 rw[if_neg (by rw[hq];decide)]at hz
 by_cases h1:t=1
 ·rw[if_pos h1]at hz
  subst h1
  by_cases hv1:v=1
  ·rw[if_pos hv1]at hz
   subst hz hv1
   have hf:=hf true
   rw[if_pos rfl]at hf
   refine so Tryz.func105 ?_
   repeat' (first|refine wu ?_|exact wkc|intro hc|refine wk2 ?_ ?_|refine wv hv ?_|refine wv hh ?_|refine wv hf ?_|(apply TO.bin;exact rfl;exact rfl;exact rfl;exact rfl)|fail)
   exact wkr
  ·rw[if_neg hv1]at hz
   subst hz
   have hf:=hf false
   rw[if_neg (by decide)]at hf
   refine so Tryz.func105 ?_
   repeat' (first|refine wu ?_|exact wkc|intro hc|refine wk2 ?_ ?_|refine wv hv ?_|refine wv hh ?_|refine wv hf ?_|fail)
   exact wkr
 rw[if_neg h1]at hz
 by_cases h2:t=2
 ·rw[if_pos h2]at hz
  subst h2 hz
  refine so Tryz.func105 ?_
  repeat' (first|refine wu ?_|exact wkc|intro hc|refine wk2 ?_ ?_|refine wv hv ?_|refine wv hh ?_|refine wv hi ?_|fail)
  exact wkr
 rw[if_neg h2]at hz
 obtain⟨g1,g2,g3,g4⟩:=enumOf_in hk h1 h2
 obtain⟨g5,g6,g7⟩:=tag_in h2 h1 hq
 rw[g7]at hz
 simp only[Option.getD_some]at hz
 have hx:=at_map enT g3
 have hu:=htl _ (List.getElem_mem g3)
 generalize hen:(enumOf es t).1=en at*
 rw[<-g4]at hx hu
 have hy:=at_map T.s g6
 have hmt:(en.tags.map T.s).length=en.tags.length:=List.length_map _
 unfold enT at hx
 subst hz
 clear hk hq hen g4 g7
 generalize en.tags[v.toNat]=tg at*
 refine so Tryz.func105 ?_
 repeat' (first|refine wu ?_|exact wkc|intro hc|refine wk2 ?_ ?_|refine wv hv ?_|refine wv hh ?_|fail)
 exact wkr
theorem knownR_sound(es:List En)(t:I64)(hl:es.length≤1000000000):Pure Tryz.prog 98 [.t (ensT es),.n t] (.b (knownT es t.1)):=by
 have hml:(es.map enT).length=es.length:=List.length_map _
 obtain⟨t,ht1,ht2⟩:=t
 dsimp only[SV.n]
 have hk:knownT es t=decide (t=1\/t=2\/(3≤t/\t-3<es.length)):=by
  unfold knownT nameT enumOf
  by_cases h1:t=1
  ·simp[h1]
  by_cases h2:t=2
  ·simp[h2]
  rw[if_neg h1,if_neg h2]
  by_cases h:3≤t/\t-3<es.length
  ·have hlt:(t-3).toNat<es.length:=by omega
   rw[if_pos h,List.getElem?_eq_getElem hlt]
   simp[h]
  ·rw[if_neg h]
   simp[h1,h2,h]
 rw[hk]
 clear hk
 refine so Tryz.func98 ?_
 repeat' (first|refine wu ?_|exact wkc|intro hc|refine wk2 ?_ ?_|fail)
 all_goals
  refine RetK.pure rfl (Le.of_eq ?_) rfl
  first|(simp_all [pack];done)|(simp_all [pack];omega)
theorem nameTR_sound(es:List En)(t:I64)(hl:es.length≤1000000000):Pure Tryz.prog 62 [.t (ensT es),.n t] (.tup [.s (if knownT es t.1=true then(nameT es t.1).1 else[]),.b (knownT es t.1)]):=by
 have hk:=knownR_sound es t hl
 have hml:(es.map enT).length=es.length:=List.length_map _
 obtain⟨t,ht1,ht2⟩:=t
 dsimp only[SV.n]at hk⊢
 cases hq:knownT es t with
 | false=>
   rw[hq]at hk
   refine so Tryz.func62 ?_
   repeat' (first|refine wu ?_|exact wkc|intro hc|refine wk2 ?_ ?_|refine wv hk ?_|fail)
   exact wkr
 | true=>
   rw[hq]at hk
   rw[if_pos rfl]
   unfold nameT
   by_cases h1:t=1
   ·rw[if_pos h1]
    subst h1
    refine so Tryz.func62 ?_
    repeat' (first|refine wu ?_|exact wkc|intro hc|refine wk2 ?_ ?_|refine wv hk ?_|fail)
    exact wkr
   rw[if_neg h1]
   by_cases h2:t=2
   ·rw[if_pos h2]
    subst h2
    refine so Tryz.func62 ?_
    repeat' (first|refine wu ?_|exact wkc|intro hc|refine wk2 ?_ ?_|refine wv hk ?_|fail)
    exact wkr
   rw[if_neg h2]
   obtain⟨g1,g2,g3,g4⟩:=enumOf_in hq h1 h2
   have hx:=at_map enT g3
   rw[<-g4]at hx
   generalize (enumOf es t).1=en at*
   unfold enT at hx
   clear hq g4
   refine so Tryz.func62 ?_
   repeat' (first|refine wu ?_|exact wkc|intro hc|refine wk2 ?_ ?_|refine wv hk ?_|fail)
   exact wkr
section rules
variable {n:Nat}{env:Env}{H:Heap}{K:TK}{all:Array Oper}{rest:List Oper}{q:Bool}{d:Nat}{ty:TypeId}{pos:String}{aft:Array Edge}
theorem TO.remT{t t':TypeId}{x:Operand}{a:Nat}(hd:Nat.ble (d+1) n=true)(hx:env.val x=some (.i a))
  (k:TO q Tryz.prog n all rest ((d,.i (a % 10:Nat))::env) H K):TO q Tryz.prog n all (⟨some d,.binOp .rem t x (.const (.int .i64 10)) t',ty,pos,aft,none⟩::rest) env H K:=
 TO.brem (a:=(a:Int)) (b:=10) hd hx rfl (by omega) (by rw[show((a:Int).tmod 10)=((a % 10:Nat):Int) from(Int.ofNat_tmod a 10).symm];exact k)
theorem TO.quoT{t t':TypeId}{x:Operand}{a:Nat}(hd:Nat.ble (d+1) n=true)(hx:env.val x=some (.i a))(ha:a≤1000000000000)
  (k:TO q Tryz.prog n all rest ((d,.i (a / 10:Nat))::env) H K):TO q Tryz.prog n all (⟨some d,.binOp .quo t x (.const (.int .i64 10)) t',ty,pos,aft,none⟩::rest) env H K:=
 TO.bquo (a:=(a:Int)) (b:=10) hd hx rfl (by omega) (by
  rw[show((a:Int).tdiv 10)=((a / 10:Nat):Int) from(Int.ofNat_tdiv a 10).symm,wrap_in (by omega) (by omega)]
  exact k)
end rules
theorem dig_wrap{u:Nat}(h:u<10):IntKind.u8.wrap (48+(u:Int))=((UInt8.ofNat (48+u)).toNat:Int):=by
 match u,h with
 | 0,_|1,_|2,_|3,_|4,_|5,_|6,_|7,_|8,_|9,_=>decide
 | u+10,h=>omega
theorem decDigits_len:∀(m u:Nat),u<10 ^ m->(Go.Lib.decDigits u).length≤m+1
 | 0,u,h=>by rw[Go.Lib.decDigits,dif_pos (by simp at h;omega)];simp
 | m+1,u,h=>by
   rw[Go.Lib.decDigits]
   split
   ·simp
   ·have:=decDigits_len m (u / 10) (by rw[Nat.pow_succ]at h;omega)
    rw[List.length_append];simp only[List.length_cons,List.length_nil];omega
set_option maxHeartbeats 4000000 in
theorem decimal_nat:∀(m u:Nat),u≤m->u≤1000000000->Pure Tryz.prog 138 [.i u] (.s (Go.Lib.decDigits u))
 | m,u,hm,hu=>by
   by_cases h:u<10
   ·rw[Go.Lib.decDigits,dif_pos h]
    have hz:=dig_wrap h
    refine so Tryz.func138 ?_
    repeat' (first|refine wkt ?_|(apply TO.add;exact rfl;exact rfl;exact rfl;omega;omega)|(apply TO.convert_as;exact rfl;kernel_rfl;kernel_rfl;exact rfl;exact hz)|(apply TO.byteStr (e:=5);exact rfl;kernel_rfl;kernel_rfl;kernel_rfl;exact rfl)|exact wkc|intro hc|refine wk2 ?_ ?_|fail)
    exact wkr
   ·cases m with
    | zero=>omega
    | succ m=>
      have ih:=decimal_nat m (u / 10) (by omega) (by omega)
      have hl:=decDigits_len 9 (u / 10) (by omega)
      rw[Go.Lib.decDigits,dif_neg h]
      generalize Go.Lib.decDigits (u / 10)=ds at*
      have hz:=dig_wrap (Nat.mod_lt u (by decide:0<10))
      have hlt:=Nat.mod_lt u (by decide:0<10)
      refine so Tryz.func138 ?_
      repeat' (first|refine wkt ?_|exact wkc|intro hc|refine wk2 ?_ ?_|fail)
      refine rgS [.i u,.i (u / 10:Nat),.s ds,.i u,.i (u % 10:Nat),.i (48+(u % 10:Nat)),.t (.v (.int .u8 ((UInt8.ofNat (48+u % 10)).toNat:Int))),.t (.sl 1 [.v (.int .u8 ((UInt8.ofNat (48+u % 10)).toNat:Int))]),.s [UInt8.ofNat (48+u % 10)],.s (ds++[UInt8.ofNat (48+u % 10)]),.s (ds++[UInt8.ofNat (48+u % 10)])] ?_ ?_
      ·repeat' (first|refine wkt ?_|refine wv ih ?_|(apply TO.add;exact rfl;exact rfl;exact rfl;omega;omega)|(apply TO.remT;exact rfl;exact rfl)|(apply TO.quoT;exact rfl;exact rfl;omega)|(apply TO.convert_as;exact rfl;kernel_rfl;kernel_rfl;exact rfl;exact hz)|(apply TO.byteStr (e:=5);exact rfl;kernel_rfl;kernel_rfl;kernel_rfl;exact rfl)|(apply TO.cat;exact rfl;exact rfl;exact rfl;(simp only[List.length_cons,List.length_nil];omega))|exact trivial|exact⟨⟨rfl,rfl⟩,trivial⟩|refine And.intro (fun env=>?_) ?_|refine wk ?_|exact wkc|intro hc|refine wk2 ?_ ?_|fail)
       done
      ·repeat' (first|refine wu ?_|exact wkc|intro hc|refine wk2 ?_ ?_|fail)
       exact wkr
theorem decimal_sound(n:Int)(h:-32768≤n/\n≤32767):Pure Tryz.prog 138 [.i n] (.s (Go.Lib.itoa n)):=by
 unfold Go.Lib.itoa
 by_cases h0:n<0
 ·rw[if_pos h0]
  have ih:=decimal_nat n.natAbs n.natAbs (Nat.le_refl _) (by omega)
  have hl:=decDigits_len 5 n.natAbs (by omega)
  rw[show((n.natAbs:Nat):Int)= -n by omega]at ih
  generalize Go.Lib.decDigits n.natAbs=ds at*
  refine so Tryz.func138 ?_
  repeat' (first|refine wkt ?_|refine wv ih ?_|(apply TO.neg;exact rfl;exact rfl;rw[wrap_in (by omega) (by omega),show(0:Int)-n= -n by omega])|(apply TO.cat;exact rfl;exact rfl;exact rfl;(simp only[List.length_cons,List.length_nil];omega))|exact wkc|intro hc|refine wk2 ?_ ?_|fail)
  exact wkr
 ·rw[if_neg h0]
  have ih:=decimal_nat n.toNat n.toNat (Nat.le_refl _) (by omega)
  rw[show((n.toNat:Nat):Int)=n by omega]at ih
  exact ih
section
variable {n:Nat}{env:Env}{K:TK}{all:Array Oper}{rest:List Oper}{d id:Nat}{ty:TypeId}{pos:String}{aft:Array Edge}{H:Heap}{x y w:Operand}{q:Bool}
theorem TO.insertP{P:Program}{t:TypeId}(k:TO false P n all (⟨none,.mapUpdate t x y w,ty,pos,aft,none⟩::rest) env H K):TO false P n all (⟨none,.insert t x y w,ty,pos,aft,none⟩::rest) env H K:=by
 unfold Go.TL.TO at k⊢
 intro φ m a h1 h2 h3 h4
 have h:=k φ m a h1 h2 h3 h4
 simp only[wpListIn]at h⊢
 rw[if_pos (show Region.wanted _ _=true from rfl)]at h⊢
 unfold Oper.wpIn at h⊢
 refine⟨fun _ _=>trivial,?_⟩
 have e:∀r,Oper.semAt r a.eval ⟨none,.insert t x y w,ty,pos,aft,none⟩=Oper.semAt r a.eval ⟨none,.mapUpdate t x y w,ty,pos,aft,none⟩:=fun r=>by
  rw[Oper.semAt_eq _ _ _ (by intro c e;cases e),Oper.semAt_eq _ _ _ (by intro c e;cases e)]
  simp only[execOp]
 rw[e]
 have h5:=h.2
 unfold Oper.uponIn at h5⊢
 exact h5
end
end Go.Proofs.YtjgmcnemcembmaaGreatDoor
