import Derived.Test.YthmbhfgflijapaaGreatDoorCards
import Derived.Test.YthmbhfgflijapaaGreatDoorTie
import Derived.Deep.DeepHandedRow
import Derived.Lib.LaidTab
import Derived.Stop.LaidErr
import Derived.Test.YthmbhfgflijapaaGreatDoorPk40
set_option linter.all false
namespace Go.Proofs.YthmbhfgflijapaaGreatDoor
open Go Go.TL
abbrev zvp:List (String×DataW Unit):=[("math/bits.deBruijn32tab",Rows.laid_math_bits_deBruijn32tab),("math/bits.deBruijn64tab",Rows.laid_math_bits_deBruijn64tab),("internal/strconv.uint64pow10",Rows.laid_internal_strconv_uint64pow10)]
def powL:List Int:=[1,10,100,1000,10000,100000,1000000,10000000,100000000,1000000000,10000000000,100000000000,1000000000000,10000000000000,100000000000000,1000000000000000,10000000000000000,100000000000000000,1000000000000000000,10000000000000000000]
theorem zpD{W:World}(h:laidMetH Tryz.prog zvp W):Glob (fun b _=>b<W.heap.size) W:=by
 have h1:laidMet Tryz.prog zvp W:=h
 have h2:laidMet Tryz.prog [("internal/strconv.uint64pow10",Lib.tabData .u64 powL)] W:=laidMet.tail (laidMet.tail h1)
 have h3:Lib.TabIs Tryz.prog W "internal/strconv.uint64pow10" .u64 powL:=Lib.tabIs_of_head (g:=gPow) (t:=256) (e:=219) (n:=20) (by kernel_rfl) (by kernel_rfl) Tryz.underlying256 Tryz.underlying219 (by kernel_rfl) (by kernel_rfl) h2
 unfold Lib.TabIs World.var? at h3
 rw[show Tryz.prog.globalNamed "internal/strconv.uint64pow10"=some gPow by kernel_rfl]at h3
 simp only[Option.bind_some]at h3
 intro b cs hb
 obtain⟨rfl,rfl⟩:=zt2 hb
 cases hq:W.heap[gPow]? with
 | none=>rw[hq]at h3;cases h3
 | some o=>
   rw[hq]at h3
   cases o with
   | cells c e f=>
     simp only[qaE]at h3
     refine⟨fun _=>?_,e,f,?_⟩
     ·exact(qaj.1 hq).1
     ·rw[h3];rfl
   | _=>cases h3
def litV:DataW Unit->Value
 | .lit (.int k z)=>.int k z
 | _=>.bool false
def tabC:DataW Unit->Array Value
 | .agg l=>(l.map litV).toArray
 | _=>#[]
def tabO(d:DataW Unit):Obj->Obj
 | .cells _ t frozen=>.cells (tabC d) t frozen
 | o=>o
noncomputable def zkI (os:Os):World:=
 { World.holding Tryz.prog os ⟨#[],#[],[]⟩ with heap:=(((World.holding Tryz.prog os ⟨#[],#[],[]⟩).heap.modify 2 (tabO Rows.laid_math_bits_deBruijn32tab)).modify 3 (tabO Rows.laid_math_bits_deBruijn64tab)).modify gPow (tabO Rows.laid_internal_strconv_uint64pow10) }
end Go.Proofs.YthmbhfgflijapaaGreatDoor
