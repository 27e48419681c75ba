import Derived.Shelf.LaysM
import Derived.KernelRfl
import Derived.Shelf.Strings.OnBuilder
import Derived.Shelf.Strings.Repeat
import Derived.Shelf.Strconv.Itoa3
import Derived.Shelf.SlSorted.Search
import Derived.Test.YtdicfgideclbdaaGreatDoorAk8
set_option maxHeartbeats 64000000
set_option linter.all false
namespace Go.Proofs.YtdicfgideclbdaaGreatDoor
open Go Go.Shelf Go.Proofs
def renF:Nat->Nat
 | 99=>51
 | 104=>186
 | 105=>72
 | 109=>192
 | 110=>173
 | 121=>163
 | 129=>216
 | 145=>185
 | 156=>32
 | 165=>73
 | 166=>22
 | 167=>21
 | 169=>23
 | 170=>124
 | 171=>164
 | 193=>77
 | 206=>107
 | 207=>205
 | 211=>198
 | 212=>123
 | 214=>189
 | 217=>211
 | 219=>204
 | 220=>197
 | 224=>213
 | 225=>212
 | 240=>59
 | 241=>125
 | 243=>190
 | 246=>199
 | 263=>154
 | 264=>155
 | 266=>220
 | 267=>214
 | 276=>111
 | 277=>156
 | 283=>206
 | 284=>207
 | 285=>208
 | 286=>209
 | 314=>221
 | 317=>215
 | 318=>217
 | 319=>218
 | 320=>219
 | 337=>222
 | 338=>223
 | 347=>224
 | 348=>225
 | 349=>226
 | 350=>227
 | 351=>228
 | 352=>229
 | 353=>230
 | 354=>231
 | 355=>232
 | 356=>233
 | 357=>234
 | 358=>235
 | 359=>236
 | 360=>237
 | 361=>238
 | 362=>240
 | 366=>241
 | 367=>247
 | n=>n
def renT:Nat->Nat
 | 22=>125
 | 24=>28
 | 25=>271
 | 26=>148
 | 27=>285
 | 31=>50
 | 32=>276
 | 33=>257
 | 37=>73
 | 41=>124
 | 42=>249
 | 46=>202
 | 47=>296
 | 51=>230
 | 52=>298
 | 53=>233
 | 54=>287
 | 55=>292
 | 59=>269
 | 60=>270
 | 67=>98
 | 70=>72
 | 71=>74
 | 72=>75
 | 73=>122
 | 74=>76
 | 75=>77
 | 76=>79
 | 77=>80
 | 80=>81
 | 81=>205
 | 83=>250
 | 84=>281
 | 101=>152
 | 103=>284
 | 104=>133
 | 109=>203
 | 110=>204
 | 111=>136
 | 112=>268
 | 114=>196
 | 131=>176
 | 132=>261
 | 146=>231
 | 147=>232
 | 148=>234
 | 149=>235
 | 151=>297
 | 164=>187
 | 165=>188
 | 166=>236
 | 171=>286
 | 172=>288
 | 173=>289
 | 174=>290
 | 211=>293
 | 212=>294
 | 213=>295
 | 229=>277
 | 232=>299
 | 233=>300
 | 238=>301
 | 239=>302
 | 240=>303
 | 241=>304
 | 242=>305
 | 243=>306
 | 244=>307
 | 245=>308
 | 246=>309
 | 247=>310
 | 248=>311
 | 249=>312
 | n=>n
def renG:Nat->Nat
 | 1=>0
 | 17=>1
 | 18=>2
 | 19=>3
 | n=>n
def ren:Ren:=⟨renF,renT,renG⟩
set_option maxRecDepth 100000 in
theorem zyk:Lays.n171 Tryz.prog ren:=by
 constructor <;> first|kernel_rfl|(intro w;kernel_rfl)
set_option maxRecDepth 100000 in
theorem zz5:LaysM.n171 Tryz.prog ren:=by
 constructor <;> first|exact zyk|kernel_rfl|(intro w;kernel_rfl)
set_option maxRecDepth 100000 in
theorem zwF:Lays.n156 Tryz.prog ren:=by
 constructor <;> first|kernel_rfl|(intro w;kernel_rfl)
set_option maxRecDepth 100000 in
theorem zu5:Lays.n105 Tryz.prog ren:=by
 constructor <;> first|kernel_rfl|(intro w;kernel_rfl)
end Go.Proofs.YtdicfgideclbdaaGreatDoor
namespace Go.Proofs.YtdicfgideclbdaaGreatDoor
open Go Go.TL Go.Shelf
theorem znH{w w':World}(h:RowKit.Below w.heap.size w w'):Keeps w w':=⟨h.os,h.tape,h.output,h.size,h.block⟩
theorem zp6(w:World):RowKit.Below w.heap.size w w:=⟨rfl,rfl,rfl,qag _,fun _ _=>rfl⟩
theorem zgF{f:FuncId}{args:List SV}{l:Str}(hc:Callable Tryz.prog f)
  (h:∀(m:M) (vs:Array Value),HRel m->m.H=[]->ARel m args vs->Calls Tryz.prog f vs m.w fun e w'=>e= .returned (str l)/\RowKit.Below m.w.heap.size m.w w'):Pure Tryz.prog f args (.s l):=by
 unfold Go.TL.Pure Go.TL.Sound;refine⟨hc,fun m vs h1 h2 h3=>Calls.mono (h m vs h2 h1 h3) ?_⟩;rintro e w' ⟨rfl,hb⟩;obtain⟨st,hm⟩:=zej h2 (znH hb);exact⟨_,.ret (.s l),rfl,st,hm,.t _ _ (.v _),rfl,h1⟩
theorem zBi:Go.Proofs.Builder.X72 Tryz.prog ren:=by constructor <;> kernel_rfl
theorem zn1:Go.Proofs.Builder.Extra Tryz.prog ren:=by
 constructor <;> first|exact zBi|kernel_rfl|(intro w;kernel_rfl)|decide
theorem znG(n:Int)(h:-9223372036854775808≤n/\n≤9223372036854775807):Pure Tryz.prog 164 [.i n] (.s (Go.Lib.itoa n)):=by
 refine zgF ⟨_,Tryz.func164,oD,rfl⟩ fun m vs hm _ hA=>?_
 obtain⟨g1,g2⟩:=hA
 match vs,g1,g2 with
 | ⟨[x]⟩,_,g2=>
   have hx:=(g2 0 _ x rfl rfl).v_eq;subst hx
   have ht:Go.Lib.TabIs Tryz.prog m.w "internal/strconv.uint64pow10" .u64 Go.Lib.pow10Tab:=by
    obtain⟨_,e,f,hg⟩:=hm.glob gPow powA zux;unfold Go.Lib.TabIs World.var?;rw[show Tryz.prog.globalNamed "internal/strconv.uint64pow10"=some gPow by kernel_rfl];simp only[Option.bind_some];rw[hg]
    kernel_rfl
   refine Calls.mono (Go.Proofs.Any.strconv_Itoa zz5 n h.1 h.2 m.w ht) ?_;rintro e w' ⟨rfl,k,os,rfl⟩;exact⟨rfl,Go.Proofs.below_grown_sl _ _ _ _ (qag _)⟩
theorem zkO(s:Str)(c:Nat)(hc:c≤9223372036854775807)(hl:s.length*c≤140737488355328):Pure Tryz.prog 72 [.s s,.i c] (.s (Go.Lib.repeatL s c)):=by
 refine zgF ⟨_,Tryz.func72,oD,rfl⟩ fun m vs hm _ hA=>?_
 obtain⟨g1,g2⟩:=hA
 match vs,g1,g2 with
 | ⟨[x,y]⟩,_,g2=>
   have hx:=(g2 0 _ x rfl rfl).v_eq;have hy:=(g2 1 _ y rfl rfl).v_eq;subst hx hy;refine Calls.mono (Go.Proofs.Any.strings_Repeat zu5 zn1 ⟨s.toArray⟩ c m.w hc (by simpa [ByteArray.size]using hl)) ?_;rintro e w' ⟨rfl,hb⟩;exact⟨rfl,hb⟩
theorem zcx(l:List Str)(sep:Str)(hl:l.length≤140737488355328)(hj:(Go.Lib.join l sep).length≤140737488355328):Pure Tryz.prog 32 [.t (.sl 1 (l.map T.s)),.s sep] (.s (Go.Lib.join l sep)):=by
 refine zgF ⟨_,Tryz.func32,oD,rfl⟩ fun m vs hm _ hA=>?_
 obtain⟨g1,g2⟩:=hA
 match vs,g1,g2 with
 | ⟨[x,y]⟩,_,g2=>
   have hx:=g2 0 _ x rfl rfl;have hy:=(g2 1 _ y rfl rfl).v_eq;subst hy
   have hnone:∀a c,l=[]->Calls Tryz.prog 32 #[.slice a 0 c,str sep] m.w fun e w'=>e= .returned (str (Go.Lib.join l sep))/\RowKit.Below m.w.heap.size m.w w':=fun a c he=>by
    refine Calls.mono (Go.Proofs.Any.strings_Join_none zwF zn1 a c ⟨sep.toArray⟩ m.w) ?_;rintro e w' ⟨rfl,rfl⟩;subst he;exact⟨rfl,zp6 _⟩
   generalize hq:T.sl 1 (l.map T.s)=q at hx;cases hx with
   | t _ _ hx=>
   cases hx with
   | v x=>cases hq
   | ag=>cases hq
   | nil sz=>
     injection hq with _ h2
     exact hnone _ _ (List.map_eq_nil_iff.1 h2)
   | empty sz a=>
     injection hq with _ h2
     exact hnone _ _ (List.map_eq_nil_iff.1 h2)
   | sl sz es b off cap f hcap hsz hA2 hw h1 hr=>
     injection hq with e1 e2
     subst e1 e2;rw[qac];rw[qac]at hcap hA2 hw h1;by_cases hne:l=[]
     ·have h0:=hnone (some ⟨b,off,none⟩) cap hne;rw[hne]at h0⊢;exact h0
     ·have hpos:0<l.length:=qbf.2 hne;have hlen:(l.map fun s=>(⟨s.toArray⟩:ByteArray)).length=l.length:=qac _
      have hmm:(l.map fun s=>(⟨s.toArray⟩:ByteArray)).map (·.data.toList)=l:=by
       rw[qa0];exact(List.map_congr_left fun _ _=>rfl).trans (qcG l)
      have hc:=Go.Proofs.Any.strings_Join zwF zn1 b off cap (l.map fun s=>⟨s.toArray⟩) ⟨sep.toArray⟩ m.w (fun j x hx=>by
       rw[qan]at hx;cases hq:l[j]? with
       | none=>rw[hq]at hx;cases hx
       | some s=>
         rw[hq]at hx;cases hx
         have hjl:=(qaa.1 hq).1;have g:=hr j (T.s s) 0 (T.s s) (by rw[qan,hq];rfl) rfl;have e:=hw j 0 hjl oB;rw[g.zBo]at e;have he:off+(j*1+0)=off+j:=oA
         rw[he]at e;exact e) (hm.inA b off (by have:=hA2 0 0 hpos oB;simpa using this)) (by rw[hlen];exact hl) (by rw[hlen];exact hcap) (by rw[hmm];exact hj)
      rw[hmm,hlen]at hc;exact hc
end Go.Proofs.YtdicfgideclbdaaGreatDoor
