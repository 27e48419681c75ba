import Derived.Test.YtpnnpgbaiobbjaaGreatDoorPz
import Derived.Test.YtpnnpgbaiobbjaaGreatDoorPk0
set_option linter.unusedSimpArgs false
set_option linter.unusedVariables false
namespace Go.TL
open Go
theorem zbh(b o k:Nat):(⟨b,o,none⟩:Addr).add k=⟨b,o+k,none⟩:=by
 unfold Addr.add;split
 ·rename_i h;subst h;rfl
 ·rfl
section rules
variable {P:Program}{n:Nat}{env:Env}{H:Heap}{K:TK}{all:Array Oper}{rest:List Oper}{tab:Tab}{q:Bool}
variable {d:Nat}{ty:TypeId}{pos:String}{aft:Array Edge}
theorem TO.bin{op:BinOp}{t t':TypeId}{x y:Operand}{a b z:Value}(hd:Nat.ble (d+1) n=true)(hx:env.val x=some (.t (.v a)))(hy:env.val y=some (.t (.v b)))
  (hz:zbi op a b=some z)(k:TO q P n all rest ((d,.t (.v z))::env) H K):TO q P n all (⟨some d,.binOp op t x y t',ty,pos,aft,none⟩::rest) env H K:=
 TO.op hd (fun m ac h1 h2 h3=>⟨z,fun w' hw'=>by
  have ex:=(h3.val hx).v_eq
  have ey:=(h3.val hy).v_eq
  have:=zlH (P:=P) (t:=t) (x:=x) (y:=y) (w:=w') hz
  simp only[execOp,ex,ey]
  rw[Sem.run_bind,this];rfl,.t _ _ (.v z)⟩) k
theorem zem{x:Int}(h1:-9223372036854775808≤x)(h2:x≤9223372036854775807):IntKind.i64.wrap x=x:=IntWalk.i64_in x (by omega)
theorem TO.add{t t':TypeId}{x y:Operand}{a b:Int}(hd:Nat.ble (d+1) n=true)(hx:env.val x=some (.t (.v (.int .i64 a))))(hy:env.val y=some (.t (.v (.int .i64 b))))
  (h1:-9223372036854775808≤a+b)(h2:a+b≤9223372036854775807)(k:TO q P n all rest ((d,.t (.v (.int .i64 (a+b))))::env) H K):TO q P n all (⟨some d,.binOp .add t x y t',ty,pos,aft,none⟩::rest) env H K:=
 TO.bin hd hx hy (by rw[show zbi .add (.int .i64 a) (.int .i64 b)=some (.int .i64 (IntKind.i64.wrap (a+b))) from rfl,zem h1 h2]) k
theorem TO.ztu{t t':TypeId}{x y:Operand}{a b:Int}(hd:Nat.ble (d+1) n=true)(hx:env.val x=some (.t (.v (.int .i64 a))))(hy:env.val y=some (.t (.v (.int .i64 b))))
  (h1:-9223372036854775808≤a-b)(h2:a-b≤9223372036854775807)(k:TO q P n all rest ((d,.t (.v (.int .i64 (a-b))))::env) H K):TO q P n all (⟨some d,.binOp .sub t x y t',ty,pos,aft,none⟩::rest) env H K:=
 TO.bin hd hx hy (by rw[show zbi .sub (.int .i64 a) (.int .i64 b)=some (.int .i64 (IntKind.i64.wrap (a-b))) from rfl,zem h1 h2]) k
theorem TO.zt5{t t':TypeId}{x y:Operand}{a b:Int}(hd:Nat.ble (d+1) n=true)(hx:env.val x=some (.t (.v (.int .i64 a))))(hy:env.val y=some (.t (.v (.int .i64 b))))
  (h1:-9223372036854775808≤a*b)(h2:a*b≤9223372036854775807)(k:TO q P n all rest ((d,.t (.v (.int .i64 (a*b))))::env) H K):TO q P n all (⟨some d,.binOp .mul t x y t',ty,pos,aft,none⟩::rest) env H K:=
 TO.bin hd hx hy (by rw[show zbi .mul (.int .i64 a) (.int .i64 b)=some (.int .i64 (IntKind.i64.wrap (a*b))) from rfl,zem h1 h2]) k
theorem TO.bquo{k':IntKind}{t t':TypeId}{x y:Operand}{a b:Int}(hd:Nat.ble (d+1) n=true)(hx:env.val x=some (.t (.v (.int k' a))))(hy:env.val y=some (.t (.v (.int k' b))))
  (hb:b≠0)(k:TO q P n all rest ((d,.t (.v (.int k' (k'.wrap (a.tdiv b)))))::env) H K):TO q P n all (⟨some d,.binOp .quo t x y t',ty,pos,aft,none⟩::rest) env H K:=
 TO.op hd (fun m ac h1 h2 h3=>⟨_,fun w' hw'=>by
  have ex:=(h3.val hx).v_eq
  have ey:=(h3.val hy).v_eq
  simp[execOp,ex,ey,eqGuard,binOp,Op.intDiv,hb],.t _ _ (.v _)⟩) k
theorem TO.cat{t t':TypeId}{x y:Operand}{a b:Str}(hd:Nat.ble (d+1) n=true)(hx:env.val x=some (.t (.v (str a))))(hy:env.val y=some (.t (.v (str b))))
  (hl:a.length+b.length≤9223372036854775807)(k:TO q P n all rest ((d,.t (.v (str (a++b))))::env) H K):TO q P n all (⟨some d,.binOp .add t x y t',ty,pos,aft,none⟩::rest) env H K:=
 TO.op hd (fun m ac h1 h2 h3=>⟨_,fun w' hw'=>by
  have ex:=(h3.val hx).v_eq
  have ey:=(h3.val hy).v_eq
  have hs:¬(((⟨a.toArray⟩:ByteArray).size+(⟨b.toArray⟩:ByteArray).size:Nat):Int) > IntKind.i64.max:=by
   show ¬(((a.length+b.length:Nat)):Int) > 9223372036854775807
   omega
  have hc:(⟨a.toArray⟩:ByteArray)++(⟨b.toArray⟩:ByteArray)=⟨(a++b).toArray⟩:=by
   apply ByteArray.ext
   simp
  have hr:(Op.stringOp .add (⟨a.toArray⟩:ByteArray) (⟨b.toArray⟩:ByteArray)).run P w'= .ok (str (a++b)) w':=by
   unfold Op.stringOp
   simp only[if_neg hs,hc]
   rfl
  simp only[execOp,ex,ey]
  simp[eqGuard,binOp,hr],.t _ _ (.v _)⟩) k
theorem TO.not{t:TypeId}{x:Operand}{b:Bool}(hd:Nat.ble (d+1) n=true)(hx:env.val x=some (.t (.v (.bool b))))(k:TO q P n all rest ((d,.t (.v (.bool (!b))))::env) H K):
  TO q P n all (⟨some d,.unOp .not t x,ty,pos,aft,none⟩::rest) env H K:=
 TO.op hd (fun m ac h1 h2 h3=>⟨.bool (!b),fun w' hw'=>by simp[execOp,(h3.val hx).v_eq,Op.unary],.t _ _ (.v _)⟩) k
theorem Fit.str{t:TypeId}{i:TyI}(h:Fit P t i)(hk:i.k= .str):P.underlying t=some .string:=by
 obtain⟨dd,ti,z,h1,h2,h3,_⟩:=h.ex
 rw[hk]at h3
 cases dd <;> simp[TK'.fits]at h3
 exact h1
theorem Fit.slice{t e:TypeId}{i:TyI}(h:Fit P t i)(hk:i.k= .slice e):P.underlying t=some (.slice e):=by
 exact zweb
theorem Fit.info{t:TypeId}{i:TyI}(h:Fit P t i):∃ti,P.info? t=some ti/\ti.size=i.size/\ti.bytes=i.bytes:=by
 obtain⟨dd,ti,z,h1,h2,h3,h4,h5,_⟩:=h.ex
 exact⟨ti,h2,h4,h5⟩
theorem Fit.isAgg{t:TypeId}{i:TyI}(h:Fit P t i)(w:World):(isAgg t).run P w= .ok i.k.agg w:=by
 obtain⟨dd,ti,z,h1,h2,h3,h4,h5,_⟩:=h.ex
 simp only[Go.isAgg,underlying]
 simp[h1]
 cases hk:i.k <;> rw[hk]at h3 <;> cases dd <;> simp[TK'.fits]at h3 <;> simp[TK'.agg]
theorem Fit.sizeOf{t:TypeId}{i:TyI}(h:Fit P t i)(w:World):(sizeOf t).run P w= .ok i.size w:=by
 obtain⟨ti,h2,h4,h5⟩:=h.info
 simp[Go.sizeOf,typeInfo,h2,h4]
theorem Fit.struct{t:TypeId}{i:TyI}{fs:List (Nat×TypeId)}(h:Fit P t i)(hk:i.k= .struct fs):∃gs,P.underlying t=some (.struct gs)/\fs=gs.toList.map fun f=>(f.offset,f.type):=by
 obtain⟨dd,ti,z,h1,h2,h3,_⟩:=h.ex
 rw[hk]at h3
 cases dd <;> simp[TK'.fits]at h3
 exact⟨_,h1,h3⟩
theorem TRel.zbn{A:Foot}{w:World}{sz:Nat}{es:List T}{x:Value}(h:TRel A w (.sl sz es) x):∃ad cap,x= .slice ad es.length cap:=by
 cases h with
 | nil=>exact⟨none,0,rfl⟩
 | empty _ a=>exact⟨some a,0,rfl⟩
 | sl _ _ b off cap f=>exact⟨_,cap,rfl⟩
def SV.elems(sz:Nat):SV->Option (List T)
 | .t (.sl s es)=>bif Nat.beq s sz then some es else none
 | .sl s es _=>bif Nat.beq s sz then some es else none
 | .t (.v (.slice none 0 0))=>some []
 | _=>none
theorem zm2{α:Type}{a b:Nat}{x y:α}(h:(bif Nat.beq a b then some x else none)=some y):a=b/\x=y:=by
 cases hb:Nat.beq a b with
 | true=>rw[hb]at h;cases h;exact⟨qaP hb,rfl⟩
 | false=>rw[hb]at h;cases h
theorem SRel.elems{m:M}{v:SV}{x:Value}{sz:Nat}{es:List T}(h:SRel m v x)(hv:v.elems sz=some es):TRel m.A m.w (.sl sz es) x:=by
 unfold SV.elems at hv
 split at hv
 ·obtain⟨rfl,rfl⟩:=zm2 hv;cases h with|t _ _ h=>exact h
 ·obtain⟨rfl,rfl⟩:=zm2 hv;cases h with|sl _ _ _ _ _ h=>exact h
 ·cases hv;have:=h.v_eq;subst this;exact .nil sz
 ·cases hv
theorem TO.zmh(hT:zau P tab){t:TypeId}{i:TyI}{x:Operand}{l:Str}(hd:Nat.ble (d+1) n=true)(ht:tab.get t=some i)(hk:i.k= .str)(hx:env.val x=some (.t (.v (str l))))
  (k:TO q P n all rest ((d,.t (.v (.int .i64 l.length)))::env) H K):TO q P n all (⟨some d,.call { callee:=.builtin .len,args:=#[x],argTypes:=#[t] },ty,pos,aft,none⟩::rest) env H K:=
 TO.op hd (fun m ac h1 h2 h3=>⟨.int .i64 l.length,fun w' hw'=>by
  simp[execOp,resolve,invoke,builtin,Builtin.len_,underlying,(hT t i ht).str hk,(h3.val hx).v_eq,goInt];rfl,.t _ _ (.v _)⟩) k
theorem TO.zpx(hT:zau P tab){t e:TypeId}{i ie:TyI}{x:Operand}{v:SV}{sz:Nat}{es:List T}(hd:Nat.ble (d+1) n=true)(ht:tab.get t=some i)(hk:i.k= .slice e)(he:tab.get e=some ie)(hs:ie.size=sz)(hx:env.val x=some v)
  (hv:v.elems sz=some es)(k:TO q P n all rest ((d,.t (.v (.int .i64 es.length)))::env) H K):TO q P n all (⟨some d,.call { callee:=.builtin .len,args:=#[x],argTypes:=#[t] },ty,pos,aft,none⟩::rest) env H K:=
 TO.op hd (fun m ac h1 h2 h3=>⟨.int .i64 es.length,fun w' hw'=>by
  obtain⟨ad,cap,hx'⟩:=((h3.val hx).elems hv).zbn
  simp[execOp,resolve,invoke,builtin,Builtin.len_,underlying,(hT t i ht).slice hk,hx',goInt],.t _ _ (.v _)⟩) k
theorem TO.zpw(hT:zau P tab){t e:TypeId}{i:TyI}{x:Operand}{sz id off len:Nat}(hd:Nat.ble (d+1) n=true)(ht:tab.get t=some i)(hk:i.k= .slice e)(hx:env.val x=some (.ms sz id off len))
  (k:TO q P n all rest ((d,.t (.v (.int .i64 len)))::env) H K):TO q P n all (⟨some d,.call { callee:=.builtin .len,args:=#[x],argTypes:=#[t] },ty,pos,aft,none⟩::rest) env H K:=
 TO.op hd (fun m ac h1 h2 h3=>⟨.int .i64 len,fun w' hw'=>by
  have h:=h3.val hx
  generalize hy:ac.eval x=y at h
  cases h
  simp[execOp,resolve,invoke,builtin,Builtin.len_,underlying,(hT t i ht).slice hk,hy,goInt],.t _ _ (.v _)⟩) k
theorem TO.zd7(hT:zau P tab){t:TypeId}{i:TyI}{x y:Operand}{l:Str}{ik:IntKind}{j:Int}{c:UInt8}(hd:Nat.ble (d+1) n=true)(ht:tab.get t=some i)(hk:i.k= .str)(hx:env.val x=some (.t (.v (str l))))
  (hy:env.val y=some (.t (.v (.int ik j))))(h0:0≤j)(hc:l[j.toNat]?=some c)(k:TO q P n all rest ((d,.t (.v (.int .u8 c.toNat)))::env) H K):TO q P n all (⟨some d,.index t x y,ty,pos,aft,none⟩::rest) env H K:=
 TO.op hd (fun m ac h1 h2 h3=>⟨.int .u8 c.toNat,fun w' hw'=>by
  have hj:(⟨l.toArray⟩:ByteArray)[j.toNat]?=some c:=by
   rw[<-hc];show(l.toArray)[j.toNat]?=_;simp
  simp[execOp,Instr.index,asIntOf,underlying,(hT t i ht).str hk,(h3.val hx).v_eq,(h3.val hy).v_eq,h0,hj],.t _ _ (.v _)⟩) k
theorem TO.indexAddr(hT:zau P tab){t e:TypeId}{i ie:TyI}{x y:Operand}{v:SV}{sz:Nat}{es:List T}{ik:IntKind}{j:Int}{el:T}(hd:Nat.ble (d+1) n=true)(ht:tab.get t=some i)(hk:i.k= .slice e)
  (he:tab.get e=some ie)(hs:ie.size=sz)(hx:env.val x=some v)(hv:v.elems sz=some es)(hy:env.val y=some (.t (.v (.int ik j))))(h0:0≤j)(hj:es[j.toNat]?=some el)
  (k:TO q P n all rest ((d,.cp el.cells 0)::env) H K):TO q P n all (⟨some d,.indexAddr t x y,ty,pos,aft,none⟩::rest) env H K:=
 TO.op hd (fun m ac h1 h2 h3=>by
  have h:=(h3.val hx).elems hv
  have hjl:j.toNat<es.length:=(qab.1 hj).1
  generalize hz:ac.eval x=z at h
  cases h with
  | nil=>simp at hjl
  | empty=>simp at hjl
  | sl _ _ b off cap f hcap hsz hA hw ho hr=>
    refine⟨.pointer (some ⟨b,off+j.toNat*sz+0,none⟩),?_,?_⟩
    ·intro w' hw'
     have hlt:j<(es.length:Int):=by omega
     simp[execOp,Instr.indexAt,asIntOf,underlying,(hT t i ht).slice hk,(h3.val hy).v_eq,hz,h0,hlt,(hT e ie he).sizeOf,zbh,hs]
    ·have hl:=hsz _ _ hj
     refine .cp _ 0 b (off+j.toNat*sz) (fun q=>f (j.toNat*sz+q)) (fun q hq=>ho _ _ hjl (by omega)) (fun q hq=>?_) (fun q hq=>?_) (fun q c hc=>hr _ _ _ _ hj hc)
     ·rw[qaZ];exact hA _ _ hjl (by omega)
     ·rw[qaZ];exact hw _ _ hjl (by omega)) k
theorem TO.zd6(hT:zau P tab){t e:TypeId}{i ie:TyI}{x y:Operand}{sz id off len:Nat}{ik:IntKind}{j:Int}(hd:Nat.ble (d+1) n=true)(ht:tab.get t=some i)(hk:i.k= .slice e)
  (he:tab.get e=some ie)(hs:ie.size=sz)(hx:env.val x=some (.ms sz id off len))(hy:env.val y=some (.t (.v (.int ik j))))(h0:0≤j)(hj:j<len)
  (k:TO q P n all rest ((d,.ref id (off+j.toNat*sz))::env) H K):TO q P n all (⟨some d,.indexAddr t x y,ty,pos,aft,none⟩::rest) env H K:=
 TO.op hd (fun m ac h1 h2 h3=>by
  have h:=h3.val hx
  generalize hz:ac.eval x=z at h
  cases h with
  | ms _ _ _ _ cap p hp hn hc hh=>
    refine⟨.pointer (some ⟨p.b,p.lo+(off+j.toNat*sz),none⟩),fun w' hw'=>?_,.ref _ _ p hp hn⟩
    simp[execOp,Instr.indexAt,asIntOf,underlying,(hT t i ht).slice hk,(h3.val hy).v_eq,hz,h0,hj,(hT e ie he).sizeOf,zbh,hs,qaZ]) k
theorem zeM(hT:zau P tab){t:TypeId}{i it:TyI}{fs:List (Nat×TypeId)}{fi o:Nat}{ft:TypeId}(ht:tab.get t=some i)(hk:i.k= .struct fs)
  (hf:fs[fi]?=some (o,ft))(hft:tab.get ft=some it)(hz:it.size≠0)(b off:Nat)(w:World):
  (Instr.fieldAt t (.pointer (some ⟨b,off,none⟩)) fi).run P w= .ok (.pointer (some ⟨b,off+o,none⟩)) w:=by
 obtain⟨gs,hu,hfs⟩:=(hT t i ht).struct hk
 have hg:∃g,gs[fi]?=some g/\g.offset=o/\g.type=ft:=by
  exact zwci
 obtain⟨g,hg1,hg2,hg3⟩:=hg
 simp[Instr.fieldAt,underlying,hu,hg1,Instr.sureAddr,fieldPlace,hg2,hg3,(hT ft it hft).sizeOf,hz,zbh]
theorem TO.fieldAddr(hT:zau P tab){t:TypeId}{i it:TyI}{fs:List (Nat×TypeId)}{x:Operand}{cs:List T}{off fi o:Nat}{ft:TypeId}(hd:Nat.ble (d+1) n=true)(ht:tab.get t=some i)(hk:i.k= .struct fs)
  (hf:fs[fi]?=some (o,ft))(hft:tab.get ft=some it)(hz:it.size≠0)(hx:env.val x=some (.cp cs off))(k:TO q P n all rest ((d,.cp cs (off+o))::env) H K):TO q P n all (⟨some d,.fieldAddr t x fi,ty,pos,aft,none⟩::rest) env H K:=
 TO.op hd (fun m ac h1 h2 h3=>by
  have h:=h3.val hx
  generalize hq:ac.eval x=z at h
  cases h with
  | cp _ _ b ob f ho hA hw hr=>
    refine⟨.pointer (some ⟨b,ob+(off+o),none⟩),fun w' hw'=>?_,.cp _ _ b ob f ho hA hw hr⟩
    have:=zeM hT ht hk hf hft hz b (ob+off) w'
    simp[execOp,hq,this,qaZ]) k
theorem TO.zdw(hT:zau P tab){t:TypeId}{i it:TyI}{fs:List (Nat×TypeId)}{x:Operand}{id off fi o:Nat}{ft:TypeId}(hd:Nat.ble (d+1) n=true)(ht:tab.get t=some i)(hk:i.k= .struct fs)
  (hf:fs[fi]?=some (o,ft))(hft:tab.get ft=some it)(hz:it.size≠0)(hx:env.val x=some (.ref id off))(k:TO q P n all rest ((d,.ref id (off+o))::env) H K):TO q P n all (⟨some d,.fieldAddr t x fi,ty,pos,aft,none⟩::rest) env H K:=
 TO.op hd (fun m ac h1 h2 h3=>by
  have h:=h3.val hx
  generalize hq:ac.eval x=z at h
  cases h with
  | ref _ _ p hp hn=>
    refine⟨.pointer (some ⟨p.b,p.lo+(off+o),none⟩),fun w' hw'=>?_,.ref _ _ p hp hn⟩
    have:=zeM hT ht hk hf hft hz p.b (p.lo+off) w'
    simp[execOp,hq,this,qaZ]) k
theorem zfm(hT:zau P tab){t:TypeId}{i:TyI}(ht:tab.get t=some i)(hk:i.k.agg=false){b o:Nat}{w:World}{x:Value}(hc:w.cell? ⟨b,o,none⟩=some x):
  (Instr.loadAt t (.pointer (some ⟨b,o,none⟩))).run P w= .ok x w:=by
 simp[Instr.loadAt,Instr.sureAddr,loadVar,(hT t i ht).isAgg,hk,hc]
theorem zfV(hT:zau P tab){t:TypeId}{i:TyI}(ht:tab.get t=some i)(hk:i.k.agg=true){b o:Nat}{w:World}{f:Nat->Value}(hc:∀j,j<i.size->w.cell? ⟨b,o+j,none⟩=some (f j)):
  (Instr.loadAt t (.pointer (some ⟨b,o,none⟩))).run P w= .ok (.agg ((List.range i.size).map f).toArray) w:=by
 have:=run_loadCells (P:=P) w ⟨b,o,none⟩ i.size f (fun j hj=>by rw[zbh];exact hc j hj)
 simp[Instr.loadAt,Instr.sureAddr,loadVar,(hT t i ht).isAgg,hk,(hT t i ht).sizeOf,this]
theorem TO.load(hT:zau P tab){t:TypeId}{i:TyI}{x:Operand}{cs:List T}{off:Nat}{c:T}(hd:Nat.ble (d+1) n=true)(ht:tab.get t=some i)(hk:i.k.agg=false)
  (hx:env.val x=some (.cp cs off))(hc:cs[off]?=some c)(k:TO q P n all rest ((d,.t c)::env) H K):TO q P n all (⟨some d,.load t x,ty,pos,aft,none⟩::rest) env H K:=
 TO.op hd (fun m ac h1 h2 h3=>by
  have h:=h3.val hx
  generalize hq:ac.eval x=z at h
  cases h with
  | cp _ _ b ob f ho hA hw hr=>
    have hl:=(qab.1 hc).1
    refine⟨f off,fun w' hw'=>?_,.t _ _ (hr _ _ hc)⟩
    have hcc:w'.cell? ⟨b,ob+off,none⟩=some (f off):=by rw[hw'.cell (h2.inA _ _ (hA off hl))];exact hw off hl
    simp[execOp,hq,zfm hT ht hk hcc]) k
theorem TO.zjt(hT:zau P tab){t:TypeId}{i:TyI}{x:Operand}{cs:List T}{off:Nat}(hd:Nat.ble (d+1) n=true)(ht:tab.get t=some i)(hk:i.k.agg=true)
  (hx:env.val x=some (.cp cs off))(hc:off+i.size≤cs.length)(k:TO q P n all rest ((d,.t (.ag ((cs.drop off).take i.size)))::env) H K):TO q P n all (⟨some d,.load t x,ty,pos,aft,none⟩::rest) env H K:=
 TO.op hd (fun m ac h1 h2 h3=>by
  have h:=h3.val hx
  generalize hq:ac.eval x=z at h
  cases h with
  | cp _ _ b ob f ho hA hw hr=>
    refine⟨.agg ((List.range i.size).map fun j=>f (off+j)).toArray,?_,.t _ _ (.ag _ _ (by simp;omega) (fun j y hy=>?_) fun j c y hc hy=>?_)⟩
    ·intro w' hw'
     have:=zfV hT ht hk (b:=b) (o:=ob+off) (w:=w') (f:=fun j=>f (off+j)) (fun j hj=>by rw[qaZ,hw'.cell (h2.inA _ _ (hA (off+j) (by omega)))];exact hw (off+j) (by omega))
     simp[execOp,hq,this]
    ·simp at hy
     obtain⟨r,hr',rfl⟩:=hy
     have:=qas hr'
     simp at this
     exact ho _ (by omega)
    ·rw[qaR]at hc
     split at hc
     ·rename_i hj
      rw[qa2]at hc
      simp[hj]at hy
      subst hy
      exact hr _ _ hc
     ·cases hc) k
theorem TO.zfn(hT:zau P tab){t:TypeId}{i:TyI}{x:Operand}{cs:List SV}{id off:Nat}{c:SV}(hd:Nat.ble (d+1) n=true)(ht:tab.get t=some i)(hk:i.k.agg=false)
  (hx:env.val x=some (.ref id off))(hH:H[id]?=some (.cells cs))(hc:cs[off]?=some c)(k:TO q P n all rest ((d,c)::env) H K):TO q P n all (⟨some d,.load t x,ty,pos,aft,none⟩::rest) env H K:=
 TO.op hd (fun m ac h1 h2 h3=>by
  have h:=h3.val hx
  generalize hq:ac.eval x=z at h
  cases h with
  | ref _ _ p hp hn=>
    have hb:=h2.blk id p (.cells cs) hp (by rw[h1];exact hH)
    obtain⟨y,hy1,_,hy2⟩:=hb.2.2 off c hc
    have hlt:=h2.inO id p _ hp (by rw[h1];exact hH) rfl (by have:=hb.1;have:=(qab.1 hc).1;omega)
    exact⟨y,fun w' hw'=>by
     have hcc:w'.cell? ⟨p.b,p.lo+off,none⟩=some y:=by rw[hw'.cell hlt];exact hy1
     simp[execOp,hq,zfm hT ht hk hcc],hy2⟩) k
theorem TO.zcX(hT:zau P tab){t:TypeId}{i:TyI}{x:Operand}{cs:List SV}{id off:Nat}(hd:Nat.ble (d+1) n=true)(ht:tab.get t=some i)(hk:i.k.agg=true)
  (hx:env.val x=some (.ref id off))(hH:H[id]?=some (.cells cs))(hc:off+i.size≤cs.length)(k:TO q P n all rest ((d,.ag ((cs.drop off).take i.size))::env) H K):TO q P n all (⟨some d,.load t x,ty,pos,aft,none⟩::rest) env H K:=
 TO.op hd (fun m ac h1 h2 h3=>by
  have h:=h3.val hx
  generalize hq:ac.eval x=z at h
  cases h with
  | ref _ _ p hp hn=>
    have hb:=h2.blk id p (.cells cs) hp (by rw[h1];exact hH)
    have hex:∀j,∃y,j<i.size->m.w.cell? ⟨p.b,p.lo+off+j,none⟩=some y/\y.oneCell'=true/\∀c,cs[off+j]?=some c->SRel m c y:=by
     intro j
     by_cases hj:j<i.size
     ·have hl:off+j<cs.length:=by omega
      obtain⟨y,hy1,hy0,hy2⟩:=hb.2.2 (off+j) cs[off+j] (qac hl)
      exact⟨y,fun _=>⟨by rw[qaZ];exact hy1,hy0,fun c hc=>by rw[qac hl]at hc;cases hc;exact hy2⟩⟩
     ·exact⟨undef,fun h=>absurd h hj⟩
    obtain⟨f,hf⟩:=qbn hex
    refine⟨.agg ((List.range i.size).map f).toArray,?_,.ag _ _ (by simp;omega) (fun j y hy=>?_) fun j c y hc hy=>?_⟩
    ·intro w' hw'
     have hcc:∀j,j<i.size->w'.cell? ⟨p.b,p.lo+off+j,none⟩=some (f j):=fun j hj=>by
      have hlt:=h2.inO id p _ hp (by rw[h1];exact hH) rfl (by have:=hb.1;omega)
      rw[hw'.cell hlt];exact(hf j hj).1
     simp[execOp,hq,zfV hT ht hk hcc]
    ·exact zwdy
    ·rw[qaR]at hc
     split at hc
     ·rename_i hj
      rw[qa2]at hc
      simp[hj]at hy
      subst hy
      exact(hf j hj).2.2 c hc
     ·cases hc) k
def SV.zme:SV->Bool
 | .cp _ _| .ref _ _| .tref _ _ _ _=>true
 | _=>false
theorem TO.nilCheck{x:Operand}{v:SV}(hd:Nat.ble (d+1) n=true)(hx:env.val x=some v)(hv:v.zme=true)(k:TO q P n all rest ((d,v)::env) H K):TO q P n all (⟨some d,.nilCheck x,ty,pos,aft,none⟩::rest) env H K:=
 TO.op hd (fun m ac h1 h2 h3=>by
  have h:=h3.val hx
  refine⟨ac.eval x,fun w' hw'=>?_,h⟩
  generalize hq:ac.eval x=z at h
  cases v <;> simp[SV.zme]at hv <;> cases h <;> simp[execOp,hq]) k
theorem TO.zeP{x:Operand}{f:FuncId}{cs:List SV}(hd:Nat.ble (d+1) n=true)(hx:env.val x=some (.fn f cs))(k:TO q P n all rest ((d,.fn f cs)::env) H K):TO q P n all (⟨some d,.nilCheck x,ty,pos,aft,none⟩::rest) env H K:=
 TO.op hd (fun m ac h1 h2 h3=>by
  have h:=h3.val hx
  refine⟨ac.eval x,fun w' hw'=>?_,h⟩
  generalize hq:ac.eval x=z at h
  cases h
  simp[execOp,hq]) k
theorem TO.extract{x:Operand}{vs:List SV}{i:Nat}{v:SV}(hd:Nat.ble (d+1) n=true)(hx:env.val x=some (.tup vs))(hv:vs[i]?=some v)(k:TO q P n all rest ((d,v)::env) H K):
  TO q P n all (⟨some d,.extract x i,ty,pos,aft,none⟩::rest) env H K:=
 TO.op hd (fun m ac h1 h2 h3=>by
  have h:=h3.val hx
  generalize hq:ac.eval x=z at h
  cases h with
  | tup _ arr hs hr=>
    have hl:=(qab.1 hv).1
    have ha:arr[i]?=some (arr[i]'(by omega)):=qal (by omega)
    exact⟨_,fun w' hw'=>by simp[execOp,hq,Instr.extract,ha],hr _ _ _ hv ha⟩) k
theorem zmu(hT:zau P tab){t:TypeId}{i:TyI}(ht:tab.get t=some i)(cs:Array Value)(off:Nat)(w:World)(hk:i.k.agg=false){x:Value}(hx:cs[off]?=some x):
  (part t cs off).run P w= .ok x w:=by
 simp[part,(hT t i ht).isAgg,hk,hx]
def SV.parts:SV->Option (List SV)
 | .ag cs=>some cs
 | .t (.ag cs)=>some (cs.map .t)
 | _=>none
theorem SRel.parts{m:M}{v:SV}{x:Value}{cs:List SV}(h:SRel m v x)(hv:v.parts=some cs):∃arr,x= .agg arr/\arr.size=cs.length/\(∀(i:Nat) y,arr[i]?=some y->y.oneCell'=true)/\∀(i:Nat) c y,cs[i]?=some c->arr[i]?=some y->SRel m c y:=by
 cases v with
 | ag l=>simp only[SV.parts,qaB]at hv;subst hv;cases h with|ag _ arr hs h1 hr=>exact⟨arr,rfl,hs,h1,hr⟩
 | t t=>
   cases t with
   | ag l=>
     simp only[SV.parts,qaB]at hv;subst hv
     cases h with
     | t _ _ h=>
       cases h with
       | ag _ arr hs h1 hr=>
         refine⟨arr,rfl,by simpa using hs,h1,fun i c y hc hy=>?_⟩
         rw[qaq]at hc
         cases hq:l[i]? with
         | none=>rw[hq]at hc;cases hc
         | some u=>rw[hq]at hc;cases hc;exact .t _ _ (hr _ _ _ hq hy)
   | _=>simp[SV.parts]at hv
 | _=>simp[SV.parts]at hv
theorem zpf(hT:zau P tab){t:TypeId}{i:TyI}{fs:List (Nat×TypeId)}{fi o:Nat}{ft:TypeId}(ht:tab.get t=some i)(hk:i.k= .struct fs)
  (hf:fs[fi]?=some (o,ft))(arr:Array Value)(w:World):(Instr.field t (.agg arr) fi).run P w=(part ft arr o).run P w:=by
 obtain⟨gs,hu,hfs⟩:=(hT t i ht).struct hk
 have hg:∃g,gs[fi]?=some g/\g.offset=o/\g.type=ft:=by
  exact zwci
 obtain⟨g,hg1,hg2,hg3⟩:=hg
 simp[Instr.field,underlying,hu,hg1,asAgg,hg2,hg3]
theorem TO.field(hT:zau P tab){t:TypeId}{i it:TyI}{fs:List (Nat×TypeId)}{x:Operand}{v c:SV}{cs:List SV}{fi o:Nat}{ft:TypeId}(hd:Nat.ble (d+1) n=true)(ht:tab.get t=some i)(hk:i.k= .struct fs)
  (hf:fs[fi]?=some (o,ft))(hft:tab.get ft=some it)(ha:it.k.agg=false)(hx:env.val x=some v)(hv:v.parts=some cs)(hc:cs[o]?=some c)
  (k:TO q P n all rest ((d,c)::env) H K):TO q P n all (⟨some d,.field t x fi,ty,pos,aft,none⟩::rest) env H K:=
 TO.op hd (fun m ac h1 h2 h3=>by
  obtain⟨arr,hq,hs,_,hr⟩:=(h3.val hx).parts hv
  have hl:=(qab.1 hc).1
  have hy:arr[o]?=some (arr[o]'(by omega)):=qal (by omega)
  refine⟨_,fun w' hw'=>?_,hr _ _ _ hc hy⟩
  simp[execOp,hq,zpf hT ht hk hf,zmu hT hft _ _ _ ha hy]) k
theorem TO.zlQ{t t':TypeId}{x:Operand}{ik ik':IntKind}{a:Int}(hd:Nat.ble (d+1) n=true)(hu:(P.underlying t).isSome=true)(hu':P.underlying t'=some (.int ik'))(hx:env.val x=some (.t (.v (.int ik a))))
  (k:TO q P n all rest ((d,.t (.v (.int ik' (ik'.wrap a))))::env) H K):TO q P n all (⟨some d,.convert t t' x,ty,pos,aft,none⟩::rest) env H K:=
 TO.op hd (fun m ac h1 h2 h3=>⟨.int ik' (ik'.wrap a),fun w' hw'=>by
  obtain⟨dd,hdd⟩:=qcm.1 hu
  simp[execOp,convert,underlying,hu',hdd,(h3.val hx).v_eq,Conv.intToInt],.t _ _ (.v _)⟩) k
theorem zim(q:IntKind)(a y:Nat)(code:BoundsCode)(w:World)(h:a≤y):(Instr.sliceBound (.int q (a:Int)) y code).run P w= .ok a w:=by
 have h1:(a:Int)≤(y:Int):=by omega
 simp[Instr.sliceBound,asIntOf,h1]
theorem ziz(isS:Bool)(len cap:Nat)(lo hi:Option Value)(a b:Nat)(w:World)(hlo:(lo=none/\a=0)\/∃q,lo=some (.int q (a:Int)))
  (hhi:(hi=none/\b=len)\/∃q,hi=some (.int q (b:Int)))(h1:a≤b)(h2:b≤cap):(Instr.sliceBounds isS len cap lo hi none).run P w= .ok (a,b,cap) w:=by
 rcases hhi with ⟨rfl,rfl⟩|⟨q,rfl⟩ <;> rcases hlo with ⟨rfl,rfl⟩|⟨q',rfl⟩ <;> simp[Instr.sliceBounds,zim,h1,h2]
theorem ERel.zgM{m:M}{ac:Act}(g:ERel m n env ac.tmps){lo:Option Operand}{dflt a:Nat}(h:(lo=none/\a=dflt)\/∃x q,lo=some x/\env.val x=some (.t (.v (.int q (a:Int))))):
  (lo.map ac.eval=none/\a=dflt)\/∃q,lo.map ac.eval=some (.int q (a:Int)):=by
 rcases h with ⟨rfl,rfl⟩|⟨x,q,rfl,hx⟩
 ·exact .inl ⟨rfl,rfl⟩
 ·exact .inr ⟨q,by simp[(g.val hx).v_eq]⟩
theorem zjO(hT:zau P tab){t:TypeId}{i:TyI}(ht:tab.get t=some i)(hk:i.k= .str)(l:Str)(lo hi:Option Value)(a b:Nat)(w:World)(hlo:(lo=none/\a=0)\/∃q,lo=some (.int q (a:Int)))
  (hhi:(hi=none/\b=l.length)\/∃q,hi=some (.int q (b:Int)))(h1:a≤b)(h2:b≤l.length):(Instr.sliceAt t (str l) lo hi none).run P w= .ok (str ((l.take b).drop a)) w:=by
 have hb:=ziz (P:=P) false (⟨l.toArray⟩:ByteArray).size (⟨l.toArray⟩:ByteArray).size lo hi a b w hlo hhi h1 h2
 have he:(⟨l.toArray⟩:ByteArray).extract a b=⟨((l.take b).drop a).toArray⟩:=by
  apply ByteArray.ext
  simp[ByteArray.data_extract,List.take_drop,Nat.add_sub_cancel' h1]
 simp[Instr.sliceAt,Instr.slice,underlying,(hT t i ht).str hk,hb,he]
theorem TO.zhW(hT:zau P tab){t:TypeId}{i:TyI}{x:Operand}{lo hi:Option Operand}{l:Str}{a b:Nat}(hd:Nat.ble (d+1) n=true)(ht:tab.get t=some i)(hk:i.k= .str)
  (hx:env.val x=some (.t (.v (str l))))(hlo:(lo=none/\a=0)\/∃x q,lo=some x/\env.val x=some (.t (.v (.int q (a:Int)))))
  (hhi:(hi=none/\b=l.length)\/∃x q,hi=some x/\env.val x=some (.t (.v (.int q (b:Int)))))(h1:a≤b)(h2:b≤l.length)
  (k:TO q P n all rest ((d,.t (.v (str ((l.take b).drop a))))::env) H K):TO q P n all (⟨some d,.slice t x lo hi none,ty,pos,aft,none⟩::rest) env H K:=
 TO.op hd (fun m ac g1 g2 g3=>⟨str ((l.take b).drop a),fun w' hw'=>by
  have:=zjO hT ht hk l (lo.map ac.eval) (hi.map ac.eval) a b w' (g3.zgM hlo) (g3.zgM hhi) h1 h2
  simp[execOp,(g3.val hx).v_eq,this],.t _ _ (.v _)⟩) k
theorem zck(hT:zau P tab){t e:TypeId}{i ie:TyI}(ht:tab.get t=some i)(hk:i.k= .slice e)(he:tab.get e=some ie)(ad:Option Addr)(len cap:Nat)(lo hi:Option Value)(a b:Nat)(w:World)
  (hlo:(lo=none/\a=0)\/∃q,lo=some (.int q (a:Int)))(hhi:(hi=none/\b=len)\/∃q,hi=some (.int q (b:Int)))(h1:a≤b)(h2:b≤cap):
  (Instr.sliceAt t (.slice ad len cap) lo hi none).run P w= .ok (.slice (if cap=a then ad else ad.map (·.add (a*ie.size))) (b-a) (cap-a)) w:=by
 have hb:=ziz (P:=P) true len cap lo hi a b w hlo hhi h1 h2
 simp[Instr.sliceAt,Instr.slice,underlying,(hT t i ht).slice hk,hb,(hT e ie he).sizeOf]
theorem TRel.part{A:Foot}{w:World}{sz:Nat}{es:List T}{ad:Option Addr}{len cap:Nat}(h:TRel A w (.sl sz es) (.slice ad len cap)){a b:Nat}(h1:a≤b)(h2:b≤es.length):
  TRel A w (.sl sz ((es.take b).drop a)) (.slice (if cap=a then ad else ad.map (·.add (a*sz))) (b-a) (cap-a)):=by
 cases h with
 | nil=>
   have:b=0:=by simpa using h2
   subst this
   have:a=0:=by omega
   subst this
   exact .nil sz
 | empty _ ad=>
   have:b=0:=by simpa using h2
   subst this
   have:a=0:=by omega
   subst this
   exact .empty sz ad
 | sl _ _ bb off _ f hcap hsz hA hw ho hr=>
   have hl:b-a=((es.take b).drop a).length:=by simp;omega
   have hget:∀(i:Nat) (e:T),((es.take b).drop a)[i]?=some e->es[a+i]?=some e:=by
    intro i e he
    rw[qa2,qaR]at he
    split at he
    ·exact he
    ·cases he
   by_cases hc:cap=a
   ·rw[if_pos hc,hl]
    have h0:(es.take b).drop a=[]:=by apply qaL;simp;omega
    rw[h0]
    exact .sl sz [] bb off _ f (by simp) (by simp) (by simp) (by simp) (by simp) (by simp)
   ·rw[if_neg hc,hl]
    simp only[qa3,zbh]
    refine .sl sz _ bb (off+a*sz) _ (fun j=>f (a*sz+j)) (by rw[<-hl];omega) (fun i e he=>hsz _ _ (hget i e he)) (fun i j hi hj=>?_) (fun i j hi hj=>?_) (fun i j hi hj=>?_) (fun i e j c he hc'=>?_)
    ·have:=hA (a+i) j (by rw[<-hl]at hi;omega) hj
     rw[qaX]at this
     rw[show off+a*sz+(i*sz+j)=off+(a*sz+i*sz+j) from by omega];exact this
    ·have:=hw (a+i) j (by rw[<-hl]at hi;omega) hj
     rw[qaX]at this
     rw[show off+a*sz+(i*sz+j)=off+(a*sz+i*sz+j) from by omega,this,qaZ]
    ·have:=ho (a+i) j (by rw[<-hl]at hi;omega) hj
     rw[qaX]at this
     rw[<-qaZ];exact this
    ·have:=hr (a+i) e j c (hget i e he) hc'
     rw[qaX]at this
     rw[<-qaZ];exact this
theorem TO.zjN(hT:zau P tab){t e:TypeId}{i ie:TyI}{x:Operand}{lo hi:Option Operand}{v:SV}{sz:Nat}{es:List T}{a b:Nat}(hd:Nat.ble (d+1) n=true)(ht:tab.get t=some i)(hk:i.k= .slice e)
  (he:tab.get e=some ie)(hs:ie.size=sz)(hx:env.val x=some v)(hv:v.elems sz=some es)(hlo:(lo=none/\a=0)\/∃x q,lo=some x/\env.val x=some (.t (.v (.int q (a:Int)))))
  (hhi:(hi=none/\b=es.length)\/∃x q,hi=some x/\env.val x=some (.t (.v (.int q (b:Int)))))(h1:a≤b)(h2:b≤es.length)
  (k:TO q P n all rest ((d,.t (.sl sz ((es.take b).drop a)))::env) H K):TO q P n all (⟨some d,.slice t x lo hi none,ty,pos,aft,none⟩::rest) env H K:=
 TO.op hd (fun m ac g1 g2 g3=>by
  have h:=(g3.val hx).elems hv
  obtain⟨ad,cap,hq⟩:=h.zbn
  rw[hq]at h
  have hcap:b≤cap:=by
   generalize hl:es.length=q at*
   cases h with
   | nil=>simp at hl;omega
   | empty=>simp at hl;omega
   | sl _ _ _ _ _ _ hc=>omega
  exact⟨_,fun w' hw'=>by
   have:=zck hT ht hk he ad es.length cap (lo.map ac.eval) (hi.map ac.eval) a b w' (g3.zgM hlo) (g3.zgM hhi) h1 hcap
   rw[hs]at this
   simp[execOp,hq,this],.t _ _ (h.part h1 h2)⟩) k
theorem TO.makeFunc{f:FuncId}{caps:Array Operand}{vs:List SV}(hd:Nat.ble (d+1) n=true)(hv:caps.toList.mapM env.val=some vs)(k:TO q P n all rest ((d,.fn f vs)::env) H K):
  TO q P n all (⟨some d,.makeFunc (.func f) #[] caps,ty,pos,aft,none⟩::rest) env H K:=
 TO.op hd (fun m ac g1 g2 g3=>⟨.func (.func f) #[] (caps.map ac.eval),fun w' hw'=>by simp[execOp,Instr.makeFunc],by
  have hl:∀(l:List Operand) (vs:List SV),l.mapM env.val=some vs->l.length=vs.length/\∀(i:Nat) c,vs[i]?=some c->∃o,l[i]?=some o/\env.val o=some c:=by
   intro l
   induction l with
   | nil=>intro vs h;simp at h;subst h;simp
   | cons o r ih=>
     intro vs h
     simp only[qbR]at h
     cases ho:env.val o with
     | none=>rw[ho]at h;simp at h
     | some v=>
       rw[ho]at h
       cases hr:r.mapM env.val with
       | none=>rw[hr]at h;simp at h
       | some us=>
         rw[hr]at h
         simp at h
         subst h
         have:=ih us hr
         refine⟨by simp[this.1],fun i c hc=>?_⟩
         cases i with
         | zero=>simp at hc;subst hc;exact⟨o,rfl,ho⟩
         | succ i=>simpa using this.2 i c (by simpa using hc)
  have h:=hl _ _ hv
  refine .fn f vs _ (by simpa using h.1) fun i c y hc hy=>?_
  obtain⟨o,ho,hv⟩:=h.2 i c hc
  have ho':caps[i]?=some o:=by simpa using ho
  rw[qcf,ho']at hy
  simp at hy
  subst hy
  exact g3.val hv⟩) k
end rules
end Go.TL
