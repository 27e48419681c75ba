import Derived.Test.YthmbhfgflijapaaGreatDoorPk0
set_option linter.all false
namespace Go.TL
open Go
theorem zbv(b o k:Nat):(⟨b,o,none⟩:Addr).add k=⟨b,o+k,none⟩:=by
 unfold Addr.add;split
 ·rename_i h;subst h;rfl
 ·rfl
section rules
variable {P:Program}{n:Nat}{env:Env}{H:Heap}{K:TK}{all:Array Oper}{rest:List Oper}{tab:Tab}{q:Bool}
variable {d:Nat}{ty:TypeId}{pos:String}{aft:Array Edge}
theorem TO.bin{op:BinOp}{t t':TypeId}{x y:Operand}{a b z:Value}(hd:Nat.ble (d+1) n=true)(hx:env.val x=some (.t (.v a)))(hy:env.val y=some (.t (.v b)))
  (hz:zbG op a b=some z)(k:TO q P n all rest ((d,.t (.v z))::env) H K):TO q P n all (⟨some d,.binOp op t x y t',ty,pos,aft,none⟩::rest) env H K:=
 TO.op hd (fun m ac h1 h2 h3=>⟨z,fun w' hw'=>by
  have ex:=(h3.val hx).v_eq
  have ey:=(h3.val hy).v_eq
  have:=zlJ (P:=P) (t:=t) (x:=x) (y:=y) (w:=w') hz
  simp only[execOp,ex,ey]
  rw[Sem.run_bind,this];rfl,.t _ _ (.v z)⟩) k
theorem zfc{x:Int}(h1:-9223372036854775808≤x)(h2:x≤9223372036854775807):IntKind.i64.wrap x=x:=IntWalk.i64_in x (by omega)
theorem TO.add{t t':TypeId}{x y:Operand}{a b:Int}(hd:Nat.ble (d+1) n=true)(hx:env.val x=some (.t (.v (.int .i64 a))))(hy:env.val y=some (.t (.v (.int .i64 b))))
  (h1:-9223372036854775808≤a+b)(h2:a+b≤9223372036854775807)(k:TO q P n all rest ((d,.t (.v (.int .i64 (a+b))))::env) H K):TO q P n all (⟨some d,.binOp .add t x y t',ty,pos,aft,none⟩::rest) env H K:=
 TO.bin hd hx hy (by rw[show zbG .add (.int .i64 a) (.int .i64 b)=some (.int .i64 (IntKind.i64.wrap (a+b))) from rfl,zfc h1 h2]) k
theorem TO.zaV{t t':TypeId}{x y:Operand}{a b:Int}(hd:Nat.ble (d+1) n=true)(hx:env.val x=some (.t (.v (.int .i64 a))))(hy:env.val y=some (.t (.v (.int .i64 b))))
  (h1:-9223372036854775808≤a-b)(h2:a-b≤9223372036854775807)(k:TO q P n all rest ((d,.t (.v (.int .i64 (a-b))))::env) H K):TO q P n all (⟨some d,.binOp .sub t x y t',ty,pos,aft,none⟩::rest) env H K:=
 TO.bin hd hx hy (by rw[show zbG .sub (.int .i64 a) (.int .i64 b)=some (.int .i64 (IntKind.i64.wrap (a-b))) from rfl,zfc h1 h2]) k
theorem TO.bquo{k':IntKind}{t t':TypeId}{x y:Operand}{a b:Int}(hd:Nat.ble (d+1) n=true)(hx:env.val x=some (.t (.v (.int k' a))))(hy:env.val y=some (.t (.v (.int k' b))))
  (hb:b≠0)(k:TO q P n all rest ((d,.t (.v (.int k' (k'.wrap (a.tdiv b)))))::env) H K):TO q P n all (⟨some d,.binOp .quo t x y t',ty,pos,aft,none⟩::rest) env H K:=
 TO.op hd (fun m ac h1 h2 h3=>⟨_,fun w' hw'=>by
  have ex:=(h3.val hx).v_eq
  have ey:=(h3.val hy).v_eq
  simp[execOp,ex,ey,eqGuard,binOp,Op.intDiv,hb],.t _ _ (.v _)⟩) k
theorem TO.cat{t t':TypeId}{x y:Operand}{a b:Str}(hd:Nat.ble (d+1) n=true)(hx:env.val x=some (.t (.v (str a))))(hy:env.val y=some (.t (.v (str b))))
  (hl:a.length+b.length≤9223372036854775807)(k:TO q P n all rest ((d,.t (.v (str (a++b))))::env) H K):TO q P n all (⟨some d,.binOp .add t x y t',ty,pos,aft,none⟩::rest) env H K:=
 TO.op hd (fun m ac h1 h2 h3=>⟨_,fun w' hw'=>by
  have ex:=(h3.val hx).v_eq
  have ey:=(h3.val hy).v_eq
  have hs:¬(((⟨a.toArray⟩:ByteArray).size+(⟨b.toArray⟩:ByteArray).size:Nat):Int) > IntKind.i64.max:=by
   show ¬(((a.length+b.length:Nat)):Int) > 9223372036854775807
   omega
  have hc:(⟨a.toArray⟩:ByteArray)++(⟨b.toArray⟩:ByteArray)=⟨(a++b).toArray⟩:=by
   apply ByteArray.ext
   simp
  have hr:(Op.stringOp .add (⟨a.toArray⟩:ByteArray) (⟨b.toArray⟩:ByteArray)).run P w'= .ok (str (a++b)) w':=by
   unfold Op.stringOp
   simp only[if_neg hs,hc]
   rfl
  simp only[execOp,ex,ey]
  simp[eqGuard,binOp,hr],.t _ _ (.v _)⟩) k
theorem TO.not{t:TypeId}{x:Operand}{b:Bool}(hd:Nat.ble (d+1) n=true)(hx:env.val x=some (.t (.v (.bool b))))(k:TO q P n all rest ((d,.t (.v (.bool (!b))))::env) H K):
  TO q P n all (⟨some d,.unOp .not t x,ty,pos,aft,none⟩::rest) env H K:=
 TO.op hd (fun m ac h1 h2 h3=>⟨.bool (!b),fun w' hw'=>by simp[execOp,(h3.val hx).v_eq,Op.unary],.t _ _ (.v _)⟩) k
theorem TO.neg{t:TypeId}{x:Operand}{ik:IntKind}{b:Int}(hd:Nat.ble (d+1) n=true)(hx:env.val x=some (.t (.v (.int ik b))))(k:TO q P n all rest ((d,.t (.v (.int ik (ik.wrap (0-b)))))::env) H K):
  TO q P n all (⟨some d,.unOp .neg t x,ty,pos,aft,none⟩::rest) env H K:=
 TO.op hd (fun m ac h1 h2 h3=>⟨.int ik (ik.wrap (0-b)),fun w' hw'=>by simp[execOp,(h3.val hx).v_eq,Op.unary,Op.intArith],.t _ _ (.v _)⟩) k
theorem Fit.str{t:TypeId}{i:TyI}(h:Fit P t i)(hk:i.k= .str):P.underlying t=some .string:=by
 obtain⟨dd,ti,z,h1,h2,h3,_⟩:=h.ex
 rw[hk]at h3
 cases dd <;> simp[TK'.fits]at h3
 exact h1
theorem Fit.slice{t e:TypeId}{i:TyI}(h:Fit P t i)(hk:i.k= .slice e):P.underlying t=some (.slice e):=by
 exact zwdt
theorem Fit.info{t:TypeId}{i:TyI}(h:Fit P t i):∃ti,P.info? t=some ti/\ti.size=i.size/\ti.bytes=i.bytes:=by
 obtain⟨dd,ti,z,h1,h2,h3,h4,h5,_⟩:=h.ex
 exact⟨ti,h2,h4,h5⟩
theorem Fit.isAgg{t:TypeId}{i:TyI}(h:Fit P t i)(w:World):(isAgg t).run P w= .ok i.k.agg w:=by
 obtain⟨dd,ti,z,h1,h2,h3,h4,h5,_⟩:=h.ex
 simp only[Go.isAgg,underlying]
 simp[h1]
 cases hk:i.k <;> rw[hk]at h3 <;> cases dd <;> simp[TK'.fits]at h3 <;> simp[TK'.agg]
theorem Fit.sizeOf{t:TypeId}{i:TyI}(h:Fit P t i)(w:World):(sizeOf t).run P w= .ok i.size w:=by
 obtain⟨ti,h2,h4,h5⟩:=h.info
 simp[Go.sizeOf,typeInfo,h2,h4]
theorem Fit.struct{t:TypeId}{i:TyI}{fs:List (Nat×TypeId)}(h:Fit P t i)(hk:i.k= .struct fs):∃gs,P.underlying t=some (.struct gs)/\fs=gs.toList.map fun f=>(f.offset,f.type):=by
 obtain⟨dd,ti,z,h1,h2,h3,_⟩:=h.ex
 rw[hk]at h3
 cases dd <;> simp[TK'.fits]at h3
 exact⟨_,h1,h3⟩
theorem TRel.zcf{A:Foot}{w:World}{sz:Nat}{es:List T}{x:Value}(h:TRel A w (.sl sz es) x):∃ad cap,x= .slice ad es.length cap:=by
 cases h with
 | nil=>exact⟨none,0,rfl⟩
 | empty _ a=>exact⟨some a,0,rfl⟩
 | sl _ _ b off cap f=>exact⟨_,cap,rfl⟩
def SV.elems(sz:Nat):SV->Option (List T)
 | .t (.sl s es)=>bif Nat.beq s sz then some es else none
 | .sl s es _=>bif Nat.beq s sz then some es else none
 | .t (.v (.slice none 0 0))=>some []
 | _=>none
theorem zmW{α:Type}{a b:Nat}{x y:α}(h:(bif Nat.beq a b then some x else none)=some y):a=b/\x=y:=by
 cases hb:Nat.beq a b with
 | true=>rw[hb]at h;cases h;exact⟨qbf hb,rfl⟩
 | false=>rw[hb]at h;cases h
theorem SRel.elems{m:M}{v:SV}{x:Value}{sz:Nat}{es:List T}(h:SRel m v x)(hv:v.elems sz=some es):TRel m.A m.w (.sl sz es) x:=by
 unfold SV.elems at hv
 split at hv
 ·obtain⟨rfl,rfl⟩:=zmW hv;cases h with|t _ _ h=>exact h
 ·obtain⟨rfl,rfl⟩:=zmW hv;cases h with|sl _ _ _ _ _ h=>exact h
 ·cases hv;have:=h.v_eq;subst this;exact .nil sz
 ·cases hv
theorem TO.zpQ(hT:zaw P tab){t:TypeId}{i:TyI}{x:Operand}{l:Str}(hd:Nat.ble (d+1) n=true)(ht:tab.get t=some i)(hk:i.k= .str)(hx:env.val x=some (.t (.v (str l))))
  (k:TO q P n all rest ((d,.t (.v (.int .i64 l.length)))::env) H K):TO q P n all (⟨some d,.call { callee:=.builtin .len,args:=#[x],argTypes:=#[t] },ty,pos,aft,none⟩::rest) env H K:=
 TO.op hd (fun m ac h1 h2 h3=>⟨.int .i64 l.length,fun w' hw'=>by
  simp[execOp,resolve,invoke,builtin,Builtin.len_,underlying,(hT t i ht).str hk,(h3.val hx).v_eq,goInt];rfl,.t _ _ (.v _)⟩) k
theorem TO.zsY(hT:zaw P tab){t e:TypeId}{i ie:TyI}{x:Operand}{v:SV}{sz:Nat}{es:List T}(hd:Nat.ble (d+1) n=true)(ht:tab.get t=some i)(hk:i.k= .slice e)(he:tab.get e=some ie)(hs:ie.size=sz)(hx:env.val x=some v)
  (hv:v.elems sz=some es)(k:TO q P n all rest ((d,.t (.v (.int .i64 es.length)))::env) H K):TO q P n all (⟨some d,.call { callee:=.builtin .len,args:=#[x],argTypes:=#[t] },ty,pos,aft,none⟩::rest) env H K:=
 TO.op hd (fun m ac h1 h2 h3=>⟨.int .i64 es.length,fun w' hw'=>by
  obtain⟨ad,cap,hx'⟩:=((h3.val hx).elems hv).zcf
  simp[execOp,resolve,invoke,builtin,Builtin.len_,underlying,(hT t i ht).slice hk,hx',goInt],.t _ _ (.v _)⟩) k
theorem TO.zsX(hT:zaw P tab){t e:TypeId}{i:TyI}{x:Operand}{sz id off len:Nat}(hd:Nat.ble (d+1) n=true)(ht:tab.get t=some i)(hk:i.k= .slice e)(hx:env.val x=some (.ms sz id off len))
  (k:TO q P n all rest ((d,.t (.v (.int .i64 len)))::env) H K):TO q P n all (⟨some d,.call { callee:=.builtin .len,args:=#[x],argTypes:=#[t] },ty,pos,aft,none⟩::rest) env H K:=
 TO.op hd (fun m ac h1 h2 h3=>⟨.int .i64 len,fun w' hw'=>by
  have h:=h3.val hx
  generalize hy:ac.eval x=y at h
  cases h
  simp[execOp,resolve,invoke,builtin,Builtin.len_,underlying,(hT t i ht).slice hk,hy,goInt],.t _ _ (.v _)⟩) k
theorem TO.zfx(hT:zaw P tab){t:TypeId}{i:TyI}{x y:Operand}{l:Str}{ik:IntKind}{j:Int}{c:UInt8}(hd:Nat.ble (d+1) n=true)(ht:tab.get t=some i)(hk:i.k= .str)(hx:env.val x=some (.t (.v (str l))))
  (hy:env.val y=some (.t (.v (.int ik j))))(h0:0≤j)(hc:l[j.toNat]?=some c)(k:TO q P n all rest ((d,.t (.v (.int .u8 c.toNat)))::env) H K):TO q P n all (⟨some d,.index t x y,ty,pos,aft,none⟩::rest) env H K:=
 TO.op hd (fun m ac h1 h2 h3=>⟨.int .u8 c.toNat,fun w' hw'=>by
  have hj:(⟨l.toArray⟩:ByteArray)[j.toNat]?=some c:=by
   rw[<-hc];show(l.toArray)[j.toNat]?=_;simp
  simp[execOp,Instr.index,asIntOf,underlying,(hT t i ht).str hk,(h3.val hx).v_eq,(h3.val hy).v_eq,h0,hj],.t _ _ (.v _)⟩) k
theorem TO.indexAddr(hT:zaw P tab){t e:TypeId}{i ie:TyI}{x y:Operand}{v:SV}{sz:Nat}{es:List T}{ik:IntKind}{j:Int}{el:T}(hd:Nat.ble (d+1) n=true)(ht:tab.get t=some i)(hk:i.k= .slice e)
  (he:tab.get e=some ie)(hs:ie.size=sz)(hx:env.val x=some v)(hv:v.elems sz=some es)(hy:env.val y=some (.t (.v (.int ik j))))(h0:0≤j)(hj:es[j.toNat]?=some el)
  (k:TO q P n all rest ((d,.cp el.cells 0)::env) H K):TO q P n all (⟨some d,.indexAddr t x y,ty,pos,aft,none⟩::rest) env H K:=
 TO.op hd (fun m ac h1 h2 h3=>by
  have h:=(h3.val hx).elems hv
  have hjl:j.toNat<es.length:=(qaa.1 hj).1
  generalize hz:ac.eval x=z at h
  cases h with
  | nil=>simp at hjl
  | empty=>simp at hjl
  | sl _ _ b off cap f hcap hsz hA hw ho hr=>
    refine⟨.pointer (some ⟨b,off+j.toNat*sz+0,none⟩),?_,?_⟩
    ·intro w' hw'
     have hlt:j<(es.length:Int):=by omega
     simp[execOp,Instr.indexAt,asIntOf,underlying,(hT t i ht).slice hk,(h3.val hy).v_eq,hz,h0,hlt,(hT e ie he).sizeOf,zbv,hs]
    ·have hl:=hsz _ _ hj
     refine .cp _ 0 b (off+j.toNat*sz) (fun q=>f (j.toNat*sz+q)) (fun q hq=>ho _ _ hjl (by omega)) (fun q hq=>?_) (fun q hq=>?_) (fun q c hc=>hr _ _ _ _ hj hc)
     ·rw[qa4];exact hA _ _ hjl (by omega)
     ·rw[qa4];exact hw _ _ hjl (by omega)) k
theorem TO.zkC(hT:zaw P tab){t e:TypeId}{i ie:TyI}{x y:Operand}{sz id off len:Nat}{ik:IntKind}{j:Int}(hd:Nat.ble (d+1) n=true)(ht:tab.get t=some i)(hk:i.k= .slice e)
  (he:tab.get e=some ie)(hs:ie.size=sz)(hx:env.val x=some (.ms sz id off len))(hy:env.val y=some (.t (.v (.int ik j))))(h0:0≤j)(hj:j<len)
  (k:TO q P n all rest ((d,.ref id (off+j.toNat*sz))::env) H K):TO q P n all (⟨some d,.indexAddr t x y,ty,pos,aft,none⟩::rest) env H K:=
 TO.op hd (fun m ac h1 h2 h3=>by
  have h:=h3.val hx
  generalize hz:ac.eval x=z at h
  cases h with
  | ms _ _ _ _ cap p hp hn hc hh=>
    refine⟨.pointer (some ⟨p.b,p.lo+(off+j.toNat*sz),none⟩),fun w' hw'=>?_,.ref _ _ p hp hn⟩
    simp[execOp,Instr.indexAt,asIntOf,underlying,(hT t i ht).slice hk,(h3.val hy).v_eq,hz,h0,hj,(hT e ie he).sizeOf,zbv,hs,qa4]) k
theorem zdP(hT:zaw P tab){t:TypeId}{i it:TyI}{fs:List (Nat×TypeId)}{fi o:Nat}{ft:TypeId}(ht:tab.get t=some i)(hk:i.k= .struct fs)
  (hf:fs[fi]?=some (o,ft))(hft:tab.get ft=some it)(hz:it.size≠0)(b off:Nat)(w:World):
  (Instr.fieldAt t (.pointer (some ⟨b,off,none⟩)) fi).run P w= .ok (.pointer (some ⟨b,off+o,none⟩)) w:=by
 obtain⟨gs,hu,hfs⟩:=(hT t i ht).struct hk
 have hg:∃g,gs[fi]?=some g/\g.offset=o/\g.type=ft:=by
  exact zwcd
 obtain⟨g,hg1,hg2,hg3⟩:=hg
 simp[Instr.fieldAt,underlying,hu,hg1,Instr.sureAddr,fieldPlace,hg2,hg3,(hT ft it hft).sizeOf,hz,zbv]
theorem TO.fieldAddr(hT:zaw P tab){t:TypeId}{i it:TyI}{fs:List (Nat×TypeId)}{x:Operand}{cs:List T}{off fi o:Nat}{ft:TypeId}(hd:Nat.ble (d+1) n=true)(ht:tab.get t=some i)(hk:i.k= .struct fs)
  (hf:fs[fi]?=some (o,ft))(hft:tab.get ft=some it)(hz:it.size≠0)(hx:env.val x=some (.cp cs off))(k:TO q P n all rest ((d,.cp cs (off+o))::env) H K):TO q P n all (⟨some d,.fieldAddr t x fi,ty,pos,aft,none⟩::rest) env H K:=
 TO.op hd (fun m ac h1 h2 h3=>by
  have h:=h3.val hx
  generalize hq:ac.eval x=z at h
  cases h with
  | cp _ _ b ob f ho hA hw hr=>
    refine⟨.pointer (some ⟨b,ob+(off+o),none⟩),fun w' hw'=>?_,.cp _ _ b ob f ho hA hw hr⟩
    have:=zdP hT ht hk hf hft hz b (ob+off) w'
    simp[execOp,hq,this,qa4]) k
theorem TO.zfp(hT:zaw P tab){t:TypeId}{i it:TyI}{fs:List (Nat×TypeId)}{x:Operand}{id off fi o:Nat}{ft:TypeId}(hd:Nat.ble (d+1) n=true)(ht:tab.get t=some i)(hk:i.k= .struct fs)
  (hf:fs[fi]?=some (o,ft))(hft:tab.get ft=some it)(hz:it.size≠0)(hx:env.val x=some (.ref id off))(k:TO q P n all rest ((d,.ref id (off+o))::env) H K):TO q P n all (⟨some d,.fieldAddr t x fi,ty,pos,aft,none⟩::rest) env H K:=
 TO.op hd (fun m ac h1 h2 h3=>by
  have h:=h3.val hx
  generalize hq:ac.eval x=z at h
  cases h with
  | ref _ _ p hp hn=>
    refine⟨.pointer (some ⟨p.b,p.lo+(off+o),none⟩),fun w' hw'=>?_,.ref _ _ p hp hn⟩
    have:=zdP hT ht hk hf hft hz p.b (p.lo+off) w'
    simp[execOp,hq,this,qa4]) k
theorem zfz(hT:zaw P tab){t:TypeId}{i:TyI}(ht:tab.get t=some i)(hk:i.k.agg=false){b o:Nat}{w:World}{x:Value}(hc:w.cell? ⟨b,o,none⟩=some x):
  (Instr.loadAt t (.pointer (some ⟨b,o,none⟩))).run P w= .ok x w:=by
 simp[Instr.loadAt,Instr.sureAddr,loadVar,(hT t i ht).isAgg,hk,hc]
theorem zf1(hT:zaw P tab){t:TypeId}{i:TyI}(ht:tab.get t=some i)(hk:i.k.agg=true){b o:Nat}{w:World}{f:Nat->Value}(hc:∀j,j<i.size->w.cell? ⟨b,o+j,none⟩=some (f j)):
  (Instr.loadAt t (.pointer (some ⟨b,o,none⟩))).run P w= .ok (.agg ((List.range i.size).map f).toArray) w:=by
 have:=run_loadCells (P:=P) w ⟨b,o,none⟩ i.size f (fun j hj=>by rw[zbv];exact hc j hj)
 simp[Instr.loadAt,Instr.sureAddr,loadVar,(hT t i ht).isAgg,hk,(hT t i ht).sizeOf,this]
theorem TO.load(hT:zaw P tab){t:TypeId}{i:TyI}{x:Operand}{cs:List T}{off:Nat}{c:T}(hd:Nat.ble (d+1) n=true)(ht:tab.get t=some i)(hk:i.k.agg=false)
  (hx:env.val x=some (.cp cs off))(hc:cs[off]?=some c)(k:TO q P n all rest ((d,.t c)::env) H K):TO q P n all (⟨some d,.load t x,ty,pos,aft,none⟩::rest) env H K:=
 TO.op hd (fun m ac h1 h2 h3=>by
  have h:=h3.val hx
  generalize hq:ac.eval x=z at h
  cases h with
  | cp _ _ b ob f ho hA hw hr=>
    have hl:=(qaa.1 hc).1
    refine⟨f off,fun w' hw'=>?_,.t _ _ (hr _ _ hc)⟩
    have hcc:w'.cell? ⟨b,ob+off,none⟩=some (f off):=by rw[hw'.cell (h2.inA _ _ (hA off hl))];exact hw off hl
    simp[execOp,hq,zfz hT ht hk hcc]) k
theorem TO.znj(hT:zaw P tab){t:TypeId}{i:TyI}{x:Operand}{cs:List T}{off:Nat}(hd:Nat.ble (d+1) n=true)(ht:tab.get t=some i)(hk:i.k.agg=true)
  (hx:env.val x=some (.cp cs off))(hc:off+i.size≤cs.length)(k:TO q P n all rest ((d,.t (.ag ((cs.drop off).take i.size)))::env) H K):TO q P n all (⟨some d,.load t x,ty,pos,aft,none⟩::rest) env H K:=
 TO.op hd (fun m ac h1 h2 h3=>by
  have h:=h3.val hx
  generalize hq:ac.eval x=z at h
  cases h with
  | cp _ _ b ob f ho hA hw hr=>
    refine⟨.agg ((List.range i.size).map fun j=>f (off+j)).toArray,?_,.t _ _ (.ag _ _ (by simp;omega) (fun j y hy=>?_) fun j c y hc hy=>?_)⟩
    ·intro w' hw'
     have:=zf1 hT ht hk (b:=b) (o:=ob+off) (w:=w') (f:=fun j=>f (off+j)) (fun j hj=>by rw[qa4,hw'.cell (h2.inA _ _ (hA (off+j) (by omega)))];exact hw (off+j) (by omega))
     simp[execOp,hq,this]
    ·simp at hy
     obtain⟨r,hr',rfl⟩:=hy
     have:=qas hr'
     simp at this
     exact ho _ (by omega)
    ·rw[qaS]at hc
     split at hc
     ·rename_i hj
      rw[qa6]at hc
      simp[hj]at hy
      subst hy
      exact hr _ _ hc
     ·cases hc) k
theorem TO.zgQ(hT:zaw P tab){t:TypeId}{i:TyI}{x:Operand}{cs:List SV}{id off:Nat}{c:SV}(hd:Nat.ble (d+1) n=true)(ht:tab.get t=some i)(hk:i.k.agg=false)
  (hx:env.val x=some (.ref id off))(hH:H[id]?=some (.cells cs))(hc:cs[off]?=some c)(k:TO q P n all rest ((d,c)::env) H K):TO q P n all (⟨some d,.load t x,ty,pos,aft,none⟩::rest) env H K:=
 TO.op hd (fun m ac h1 h2 h3=>by
  have h:=h3.val hx
  generalize hq:ac.eval x=z at h
  cases h with
  | ref _ _ p hp hn=>
    have hb:=h2.blk id p (.cells cs) hp (by rw[h1];exact hH)
    obtain⟨y,hy1,_,hy2⟩:=hb.2.2 off c hc
    have hlt:=h2.inO id p _ hp (by rw[h1];exact hH) rfl (by have:=hb.1;have:=(qaa.1 hc).1;omega)
    exact⟨y,fun w' hw'=>by
     have hcc:w'.cell? ⟨p.b,p.lo+off,none⟩=some y:=by rw[hw'.cell hlt];exact hy1
     simp[execOp,hq,zfz hT ht hk hcc],hy2⟩) k
theorem TO.zeo(hT:zaw P tab){t:TypeId}{i:TyI}{x:Operand}{cs:List SV}{id off:Nat}(hd:Nat.ble (d+1) n=true)(ht:tab.get t=some i)(hk:i.k.agg=true)
  (hx:env.val x=some (.ref id off))(hH:H[id]?=some (.cells cs))(hc:off+i.size≤cs.length)(k:TO q P n all rest ((d,.ag ((cs.drop off).take i.size))::env) H K):TO q P n all (⟨some d,.load t x,ty,pos,aft,none⟩::rest) env H K:=
 TO.op hd (fun m ac h1 h2 h3=>by
  have h:=h3.val hx
  generalize hq:ac.eval x=z at h
  cases h with
  | ref _ _ p hp hn=>
    have hb:=h2.blk id p (.cells cs) hp (by rw[h1];exact hH)
    have hex:∀j,∃y,j<i.size->m.w.cell? ⟨p.b,p.lo+off+j,none⟩=some y/\y.oneCell'=true/\∀c,cs[off+j]?=some c->SRel m c y:=by
     intro j
     by_cases hj:j<i.size
     ·have hl:off+j<cs.length:=by omega
      obtain⟨y,hy1,hy0,hy2⟩:=hb.2.2 (off+j) cs[off+j] (qac hl)
      exact⟨y,fun _=>⟨by rw[qa4];exact hy1,hy0,fun c hc=>by rw[qac hl]at hc;cases hc;exact hy2⟩⟩
     ·exact⟨undef,fun h=>absurd h hj⟩
    obtain⟨f,hf⟩:=qbJ hex
    refine⟨.agg ((List.range i.size).map f).toArray,?_,.ag _ _ (by simp;omega) (fun j y hy=>?_) fun j c y hc hy=>?_⟩
    ·intro w' hw'
     have hcc:∀j,j<i.size->w'.cell? ⟨p.b,p.lo+off+j,none⟩=some (f j):=fun j hj=>by
      have hlt:=h2.inO id p _ hp (by rw[h1];exact hH) rfl (by have:=hb.1;omega)
      rw[hw'.cell hlt];exact(hf j hj).1
     simp[execOp,hq,zf1 hT ht hk hcc]
    ·exact zwdp
    ·rw[qaS]at hc
     split at hc
     ·rename_i hj
      rw[qa6]at hc
      simp[hj]at hy
      subst hy
      exact(hf j hj).2.2 c hc
     ·cases hc) k
def SV.zmb:SV->Bool
 | .cp _ _| .ref _ _| .tref _ _ _ _=>true
 | _=>false
theorem TO.nilCheck{x:Operand}{v:SV}(hd:Nat.ble (d+1) n=true)(hx:env.val x=some v)(hv:v.zmb=true)(k:TO q P n all rest ((d,v)::env) H K):TO q P n all (⟨some d,.nilCheck x,ty,pos,aft,none⟩::rest) env H K:=
 TO.op hd (fun m ac h1 h2 h3=>by
  have h:=h3.val hx
  refine⟨ac.eval x,fun w' hw'=>?_,h⟩
  generalize hq:ac.eval x=z at h
  cases v <;> simp[SV.zmb]at hv <;> cases h <;> simp[execOp,hq]) k
theorem TO.zhD{x:Operand}{f:FuncId}{cs:List SV}(hd:Nat.ble (d+1) n=true)(hx:env.val x=some (.fn f cs))(k:TO q P n all rest ((d,.fn f cs)::env) H K):TO q P n all (⟨some d,.nilCheck x,ty,pos,aft,none⟩::rest) env H K:=
 TO.op hd (fun m ac h1 h2 h3=>by
  have h:=h3.val hx
  refine⟨ac.eval x,fun w' hw'=>?_,h⟩
  generalize hq:ac.eval x=z at h
  cases h
  simp[execOp,hq]) k
theorem TO.extract{x:Operand}{vs:List SV}{i:Nat}{v:SV}(hd:Nat.ble (d+1) n=true)(hx:env.val x=some (.tup vs))(hv:vs[i]?=some v)(k:TO q P n all rest ((d,v)::env) H K):
  TO q P n all (⟨some d,.extract x i,ty,pos,aft,none⟩::rest) env H K:=
 TO.op hd (fun m ac h1 h2 h3=>by
  have h:=h3.val hx
  generalize hq:ac.eval x=z at h
  cases h with
  | tup _ arr hs hr=>
    have hl:=(qaa.1 hv).1
    have ha:arr[i]?=some (arr[i]'(by omega)):=qam (by omega)
    exact⟨_,fun w' hw'=>by simp[execOp,hq,Instr.extract,ha],hr _ _ _ hv ha⟩) k
theorem zmo(hT:zaw P tab){t:TypeId}{i:TyI}(ht:tab.get t=some i)(cs:Array Value)(off:Nat)(w:World)(hk:i.k.agg=false){x:Value}(hx:cs[off]?=some x):
  (part t cs off).run P w= .ok x w:=by
 simp[part,(hT t i ht).isAgg,hk,hx]
def SV.parts:SV->Option (List SV)
 | .ag cs=>some cs
 | .t (.ag cs)=>some (cs.map .t)
 | _=>none
theorem SRel.parts{m:M}{v:SV}{x:Value}{cs:List SV}(h:SRel m v x)(hv:v.parts=some cs):∃arr,x= .agg arr/\arr.size=cs.length/\(∀(i:Nat) y,arr[i]?=some y->y.oneCell'=true)/\∀(i:Nat) c y,cs[i]?=some c->arr[i]?=some y->SRel m c y:=by
 cases v with
 | ag l=>simp only[SV.parts,qaE]at hv;subst hv;cases h with|ag _ arr hs h1 hr=>exact⟨arr,rfl,hs,h1,hr⟩
 | t t=>
   cases t with
   | ag l=>
     simp only[SV.parts,qaE]at hv;subst hv
     cases h with
     | t _ _ h=>
       cases h with
       | ag _ arr hs h1 hr=>
         refine⟨arr,rfl,by simpa using hs,h1,fun i c y hc hy=>?_⟩
         rw[qar]at hc
         cases hq:l[i]? with
         | none=>rw[hq]at hc;cases hc
         | some u=>rw[hq]at hc;cases hc;exact .t _ _ (hr _ _ _ hq hy)
   | _=>simp[SV.parts]at hv
 | _=>simp[SV.parts]at hv
theorem zpw(hT:zaw P tab){t:TypeId}{i:TyI}{fs:List (Nat×TypeId)}{fi o:Nat}{ft:TypeId}(ht:tab.get t=some i)(hk:i.k= .struct fs)
  (hf:fs[fi]?=some (o,ft))(arr:Array Value)(w:World):(Instr.field t (.agg arr) fi).run P w=(part ft arr o).run P w:=by
 obtain⟨gs,hu,hfs⟩:=(hT t i ht).struct hk
 have hg:∃g,gs[fi]?=some g/\g.offset=o/\g.type=ft:=by
  exact zwcd
 obtain⟨g,hg1,hg2,hg3⟩:=hg
 simp[Instr.field,underlying,hu,hg1,asAgg,hg2,hg3]
theorem TO.field(hT:zaw P tab){t:TypeId}{i it:TyI}{fs:List (Nat×TypeId)}{x:Operand}{v c:SV}{cs:List SV}{fi o:Nat}{ft:TypeId}(hd:Nat.ble (d+1) n=true)(ht:tab.get t=some i)(hk:i.k= .struct fs)
  (hf:fs[fi]?=some (o,ft))(hft:tab.get ft=some it)(ha:it.k.agg=false)(hx:env.val x=some v)(hv:v.parts=some cs)(hc:cs[o]?=some c)
  (k:TO q P n all rest ((d,c)::env) H K):TO q P n all (⟨some d,.field t x fi,ty,pos,aft,none⟩::rest) env H K:=
 TO.op hd (fun m ac h1 h2 h3=>by
  obtain⟨arr,hq,hs,_,hr⟩:=(h3.val hx).parts hv
  have hl:=(qaa.1 hc).1
  have hy:arr[o]?=some (arr[o]'(by omega)):=qam (by omega)
  refine⟨_,fun w' hw'=>?_,hr _ _ _ hc hy⟩
  simp[execOp,hq,zpw hT ht hk hf,zmo hT hft _ _ _ ha hy]) k
theorem zis(q:IntKind)(a y:Nat)(code:BoundsCode)(w:World)(h:a≤y):(Instr.sliceBound (.int q (a:Int)) y code).run P w= .ok a w:=by
 have h1:(a:Int)≤(y:Int):=by omega
 simp[Instr.sliceBound,asIntOf,h1]
theorem ziA(isS:Bool)(len cap:Nat)(lo hi:Option Value)(a b:Nat)(w:World)(hlo:(lo=none/\a=0)\/∃q,lo=some (.int q (a:Int)))
  (hhi:(hi=none/\b=len)\/∃q,hi=some (.int q (b:Int)))(h1:a≤b)(h2:b≤cap):(Instr.sliceBounds isS len cap lo hi none).run P w= .ok (a,b,cap) w:=by
 rcases hhi with ⟨rfl,rfl⟩|⟨q,rfl⟩ <;> rcases hlo with ⟨rfl,rfl⟩|⟨q',rfl⟩ <;> simp[Instr.sliceBounds,zis,h1,h2]
theorem ERel.zgK{m:M}{ac:Act}(g:ERel m n env ac.tmps){lo:Option Operand}{dflt a:Nat}(h:(lo=none/\a=dflt)\/∃x q,lo=some x/\env.val x=some (.t (.v (.int q (a:Int))))):
  (lo.map ac.eval=none/\a=dflt)\/∃q,lo.map ac.eval=some (.int q (a:Int)):=by
 rcases h with ⟨rfl,rfl⟩|⟨x,q,rfl,hx⟩
 ·exact .inl ⟨rfl,rfl⟩
 ·exact .inr ⟨q,by simp[(g.val hx).v_eq]⟩
theorem zjL(hT:zaw P tab){t:TypeId}{i:TyI}(ht:tab.get t=some i)(hk:i.k= .str)(l:Str)(lo hi:Option Value)(a b:Nat)(w:World)(hlo:(lo=none/\a=0)\/∃q,lo=some (.int q (a:Int)))
  (hhi:(hi=none/\b=l.length)\/∃q,hi=some (.int q (b:Int)))(h1:a≤b)(h2:b≤l.length):(Instr.sliceAt t (str l) lo hi none).run P w= .ok (str ((l.take b).drop a)) w:=by
 have hb:=ziA (P:=P) false (⟨l.toArray⟩:ByteArray).size (⟨l.toArray⟩:ByteArray).size lo hi a b w hlo hhi h1 h2
 have he:(⟨l.toArray⟩:ByteArray).extract a b=⟨((l.take b).drop a).toArray⟩:=by
  apply ByteArray.ext
  simp[ByteArray.data_extract,List.take_drop,Nat.add_sub_cancel' h1]
 simp[Instr.sliceAt,Instr.slice,underlying,(hT t i ht).str hk,hb,he]
theorem TO.zhY(hT:zaw P tab){t:TypeId}{i:TyI}{x:Operand}{lo hi:Option Operand}{l:Str}{a b:Nat}(hd:Nat.ble (d+1) n=true)(ht:tab.get t=some i)(hk:i.k= .str)
  (hx:env.val x=some (.t (.v (str l))))(hlo:(lo=none/\a=0)\/∃x q,lo=some x/\env.val x=some (.t (.v (.int q (a:Int)))))
  (hhi:(hi=none/\b=l.length)\/∃x q,hi=some x/\env.val x=some (.t (.v (.int q (b:Int)))))(h1:a≤b)(h2:b≤l.length)
  (k:TO q P n all rest ((d,.t (.v (str ((l.take b).drop a))))::env) H K):TO q P n all (⟨some d,.slice t x lo hi none,ty,pos,aft,none⟩::rest) env H K:=
 TO.op hd (fun m ac g1 g2 g3=>⟨str ((l.take b).drop a),fun w' hw'=>by
  have:=zjL hT ht hk l (lo.map ac.eval) (hi.map ac.eval) a b w' (g3.zgK hlo) (g3.zgK hhi) h1 h2
  simp[execOp,(g3.val hx).v_eq,this],.t _ _ (.v _)⟩) k
theorem zdj(hT:zaw P tab){t e:TypeId}{i ie:TyI}(ht:tab.get t=some i)(hk:i.k= .slice e)(he:tab.get e=some ie)(ad:Option Addr)(len cap:Nat)(lo hi:Option Value)(a b:Nat)(w:World)
  (hlo:(lo=none/\a=0)\/∃q,lo=some (.int q (a:Int)))(hhi:(hi=none/\b=len)\/∃q,hi=some (.int q (b:Int)))(h1:a≤b)(h2:b≤cap):
  (Instr.sliceAt t (.slice ad len cap) lo hi none).run P w= .ok (.slice (if cap=a then ad else ad.map (·.add (a*ie.size))) (b-a) (cap-a)) w:=by
 have hb:=ziA (P:=P) true len cap lo hi a b w hlo hhi h1 h2
 simp[Instr.sliceAt,Instr.slice,underlying,(hT t i ht).slice hk,hb,(hT e ie he).sizeOf]
theorem TRel.part{A:Foot}{w:World}{sz:Nat}{es:List T}{ad:Option Addr}{len cap:Nat}(h:TRel A w (.sl sz es) (.slice ad len cap)){a b:Nat}(h1:a≤b)(h2:b≤es.length):
  TRel A w (.sl sz ((es.take b).drop a)) (.slice (if cap=a then ad else ad.map (·.add (a*sz))) (b-a) (cap-a)):=by
 cases h with
 | nil=>
   have:b=0:=by simpa using h2
   subst this
   have:a=0:=by omega
   subst this
   exact .nil sz
 | empty _ ad=>
   have:b=0:=by simpa using h2
   subst this
   have:a=0:=by omega
   subst this
   exact .empty sz ad
 | sl _ _ bb off _ f hcap hsz hA hw ho hr=>
   have hl:b-a=((es.take b).drop a).length:=by simp;omega
   have hget:∀(i:Nat) (e:T),((es.take b).drop a)[i]?=some e->es[a+i]?=some e:=by
    intro i e he
    rw[qa6,qaS]at he
    split at he
    ·exact he
    ·cases he
   by_cases hc:cap=a
   ·rw[if_pos hc,hl]
    have h0:(es.take b).drop a=[]:=by apply qaM;simp;omega
    rw[h0]
    exact .sl sz [] bb off _ f (by simp) (by simp) (by simp) (by simp) (by simp) (by simp)
   ·rw[if_neg hc,hl]
    simp only[qaW,zbv]
    refine .sl sz _ bb (off+a*sz) _ (fun j=>f (a*sz+j)) (by rw[<-hl];omega) (fun i e he=>hsz _ _ (hget i e he)) (fun i j hi hj=>?_) (fun i j hi hj=>?_) (fun i j hi hj=>?_) (fun i e j c he hc'=>?_)
    ·have:=hA (a+i) j (by rw[<-hl]at hi;omega) hj
     rw[qaX]at this
     rw[show off+a*sz+(i*sz+j)=off+(a*sz+i*sz+j) from by omega];exact this
    ·have:=hw (a+i) j (by rw[<-hl]at hi;omega) hj
     rw[qaX]at this
     rw[show off+a*sz+(i*sz+j)=off+(a*sz+i*sz+j) from by omega,this,qa4]
    ·have:=ho (a+i) j (by rw[<-hl]at hi;omega) hj
     rw[qaX]at this
     rw[<-qa4];exact this
    ·have:=hr (a+i) e j c (hget i e he) hc'
     rw[qaX]at this
     rw[<-qa4];exact this
theorem TO.zgY(hT:zaw P tab){t e:TypeId}{i ie:TyI}{x:Operand}{lo hi:Option Operand}{v:SV}{sz:Nat}{es:List T}{a b:Nat}(hd:Nat.ble (d+1) n=true)(ht:tab.get t=some i)(hk:i.k= .slice e)
  (he:tab.get e=some ie)(hs:ie.size=sz)(hx:env.val x=some v)(hv:v.elems sz=some es)(hlo:(lo=none/\a=0)\/∃x q,lo=some x/\env.val x=some (.t (.v (.int q (a:Int)))))
  (hhi:(hi=none/\b=es.length)\/∃x q,hi=some x/\env.val x=some (.t (.v (.int q (b:Int)))))(h1:a≤b)(h2:b≤es.length)
  (k:TO q P n all rest ((d,.t (.sl sz ((es.take b).drop a)))::env) H K):TO q P n all (⟨some d,.slice t x lo hi none,ty,pos,aft,none⟩::rest) env H K:=
 TO.op hd (fun m ac g1 g2 g3=>by
  have h:=(g3.val hx).elems hv
  obtain⟨ad,cap,hq⟩:=h.zcf
  rw[hq]at h
  have hcap:b≤cap:=by
   generalize hl:es.length=q at*
   cases h with
   | nil=>simp at hl;omega
   | empty=>simp at hl;omega
   | sl _ _ _ _ _ _ hc=>omega
  exact⟨_,fun w' hw'=>by
   have:=zdj hT ht hk he ad es.length cap (lo.map ac.eval) (hi.map ac.eval) a b w' (g3.zgK hlo) (g3.zgK hhi) h1 hcap
   rw[hs]at this
   simp[execOp,hq,this],.t _ _ (h.part h1 h2)⟩) k
theorem TO.makeFunc{f:FuncId}{caps:Array Operand}{vs:List SV}(hd:Nat.ble (d+1) n=true)(hv:caps.toList.mapM env.val=some vs)(k:TO q P n all rest ((d,.fn f vs)::env) H K):
  TO q P n all (⟨some d,.makeFunc (.func f) #[] caps,ty,pos,aft,none⟩::rest) env H K:=
 TO.op hd (fun m ac g1 g2 g3=>⟨.func (.func f) #[] (caps.map ac.eval),fun w' hw'=>by simp[execOp,Instr.makeFunc],by
  have hl:∀(l:List Operand) (vs:List SV),l.mapM env.val=some vs->l.length=vs.length/\∀(i:Nat) c,vs[i]?=some c->∃o,l[i]?=some o/\env.val o=some c:=by
   intro l
   induction l with
   | nil=>intro vs h;simp at h;subst h;simp
   | cons o r ih=>
     intro vs h
     simp only[qb0]at h
     cases ho:env.val o with
     | none=>rw[ho]at h;simp at h
     | some v=>
       rw[ho]at h
       cases hr:r.mapM env.val with
       | none=>rw[hr]at h;simp at h
       | some us=>
         rw[hr]at h
         simp at h
         subst h
         have:=ih us hr
         refine⟨by simp[this.1],fun i c hc=>?_⟩
         cases i with
         | zero=>simp at hc;subst hc;exact⟨o,rfl,ho⟩
         | succ i=>simpa using this.2 i c (by simpa using hc)
  have h:=hl _ _ hv
  refine .fn f vs _ (by simpa using h.1) fun i c y hc hy=>?_
  obtain⟨o,ho,hv⟩:=h.2 i c hc
  have ho':caps[i]?=some o:=by simpa using ho
  rw[qcl,ho']at hy
  simp at hy
  subst hy
  exact g3.val hv⟩) k
end rules
theorem zaO{w w':World}{b o:Nat}(h:w'.heap[b]?=w.heap[b]?):w'.cell? ⟨b,o,none⟩=w.cell? ⟨b,o,none⟩:=by simp[World.cell?,h]
theorem zaY{w w':World}{b o:Nat}(h:w'.heap[b]?=w.heap[b]?):w'.frozen? ⟨b,o,none⟩=w.frozen? ⟨b,o,none⟩:=by simp[World.frozen?,h]
theorem zi5.zc1{m:M}{p:Place}{k:Blk}(h:zi5 m p k)(hk:k.obj=true):p.lo=0/\p.hi=1/\∀o,m.w.cell? ⟨p.b,o,none⟩=none:=by
 cases k <;> simp[Blk.obj]at hk
 ·obtain⟨h1,h2,a,c,h3,_⟩:=h
  exact⟨h1,h2,fun o=>by simp[World.cell?,h3]⟩
 ·obtain⟨h1,h2,L,h3,_⟩:=h
  exact⟨h1,h2,fun o=>by simp[World.cell?,h3]⟩
theorem zi5.step{m m':M}(hm:HRel m)(s:Step m m'){p:Place}{k:Blk}(h:zi5 m p k)(hk:∀o,p.lo≤o->o<p.hi->m'.w.cell? ⟨p.b,o,none⟩=m.w.cell? ⟨p.b,o,none⟩/\((m.w.cell? ⟨p.b,o,none⟩).isSome=true->m'.w.frozen? ⟨p.b,o,none⟩=m.w.frozen? ⟨p.b,o,none⟩))
  (hmap:k.obj=true->m'.w.heap[p.b]?=m.w.heap[p.b]?):zi5 m' p k:=by
 cases k with
 | cells cs=>
   obtain⟨h1,h2,h3⟩:=h
   refine⟨h1,fun o ho ho'=>?_,fun j c hc=>?_⟩
   ·exact zwdv
   ·obtain⟨y,hy1,hy0,hy2⟩:=h3 j c hc
    have hj:=(qaa.1 hc).1
    exact⟨y,by rw[(hk (p.lo+j) (by omega) (by omega)).1];exact hy1,hy0,s.srel hm hy2⟩
 | tail n=>
   intro o ho ho'
   have:=h o ho ho'
   unfold Free at this⊢
   rw[(hk o ho ho').1,(hk o ho ho').2 this.1];exact this
 | row e cs=>
   obtain⟨h1,h2,h3⟩:=h
   refine⟨⟨h1.1,h1.2.1,fun h=>s.shape _ _ (h1.2.2 h)⟩,fun o ho ho'=>?_,fun j c hc=>?_⟩
   ·exact zwdv
   ·obtain⟨y,hy1,hy0,hy2⟩:=h3 j c hc
    have hj:=(qaa.1 hc).1
    exact⟨y,by rw[(hk (p.lo+j) (by omega) (by omega)).1];exact hy1,hy0,s.trel hm hy2⟩
 | map kt vt es=>
   obtain⟨h1,h2,a,clock,h3,h4,h5⟩:=h
   refine⟨h1,h2,a,clock,?_,h4,fun i k t e he ha=>?_⟩
   ·rw[hmap rfl];exact h3
   ·obtain⟨g1,g2,g3⟩:=h5 i k t e he ha
    exact⟨g1,s.trel hm g2,g3⟩
 | loop fn st pe n env ps aas bo=>
   obtain⟨h1,h2,L,h3,h4,h5⟩:=h
   exact⟨h1,h2,L,by rw[hmap rfl];exact h3,h4,h5.step hm s⟩
 | dead=>trivial
theorem zb4{h h':Option Blk}{p:Place}(e:h'=h):zaZ h h' p p:=e ▸ zaZ.refl h p
theorem grow{m:M}(hm:HRel m){A':Foot}{βn:List Place}{Hn:Heap}{w':World}(hos:w'.os=m.w.os)(htp:w'.tape=m.w.tape)(hou:w'.output=m.w.output)(hsz:m.w.heap.size≤w'.heap.size)
  (hkeep:∀b,b<m.w.heap.size->w'.heap[b]?=m.w.heap[b]?)(hA:∀b o,m.A b o->A' b o)(hA':∀b o,A' b o->m.A b o\/(m.w.heap.size≤b/\b<w'.heap.size))(hlen:βn.length=Hn.length)
  (hnew:∀(i:Nat) p k,βn[i]?=some p->Hn[i]?=some k->k.live=true->(m.w.heap.size≤p.b/\p.b<w'.heap.size)\/p.hi≤p.lo)
  (hap:∀(i j:Nat) p q,i≠j->βn[i]?=some p->βn[j]?=some q->p.apart q)
  (hst:∀b o,A' b o->¬m.A b o->∀(i:Nat) p k,βn[i]?=some p->Hn[i]?=some k->k.live=true->¬(p.b=b/\p.lo≤o/\o<p.hi))
  (hblk:Step m ⟨A',m.β++βn,m.H++Hn,w'⟩->∀(i:Nat) p k,βn[i]?=some p->Hn[i]?=some k->zi5 ⟨A',m.β++βn,m.H++Hn,w'⟩ p k):
  Step m ⟨A',m.β++βn,m.H++Hn,w'⟩/\HRel ⟨A',m.β++βn,m.H++Hn,w'⟩:=by
 have split:∀(i:Nat) p k,(m.β++βn)[i]?=some p->(m.H++Hn)[i]?=some k->(m.β[i]?=some p/\m.H[i]?=some k)\/(m.β.length≤i/\βn[i-m.β.length]?=some p/\Hn[i-m.β.length]?=some k):=by
  intro i p k h1 h2
  by_cases hi:i<m.β.length
  ·rw[qat hi]at h1
   rw[qat (by rw[<-hm.len];exact hi)]at h2
   exact .inl ⟨h1,h2⟩
  ·rw[qaA (by omega)]at h1
   rw[qaA (by rw[<-hm.len];omega),<-hm.len]at h2
   exact .inr ⟨by omega,h1,h2⟩
 have s:Step m ⟨A',m.β++βn,m.H++Hn,w'⟩:=by
  refine⟨hos,htp,hou,hsz,hA,fun b o h=>?_,fun b o h=>?_,fun b o hb _=>zaO (hkeep b hb),fun b o hb _ _=>zaY (hkeep b hb),fun b hb _=>hkeep b hb,fun b sh hs=>(by rw[zbE (hkeep b (zgW hs))];exact hs),fun b L hL=>⟨L,by show w'.heap[b]?=_;rw[hkeep b (qaj.1 hL).1];exact hL⟩,fun b o hb h=>?_,fun i p hp=>?_⟩
  ·rcases hA' b o h with h|h
   ·exact .inl h
   ·exact .inr (.inr h.1)
  ·obtain⟨i,p,k,h1,h2,h3,h4,h5,h6⟩:=h
   rcases split i p k h1 h2 with ⟨g1,g2⟩|⟨g0,g1,g2⟩
   ·exact .inl ⟨i,p,k,g1,g2,h3,h4,h5,h6⟩
   ·rcases hnew _ p k g1 g2 h3 with g|g
    ·exact .inr (by rw[<-h4];exact g.1)
    ·omega
  ·rw[zaO (hkeep b hb)];exact h
  ·have hi:=(qaa.1 hp).1
   refine⟨p,by rw[qat hi];exact hp,zb4 ?_⟩
   show(m.H++Hn)[i]?=m.H[i]?
   rw[qat (by rw[<-hm.len];exact hi)]
 refine⟨s,by simp[hm.len,hlen],fun i p k h1 h2=>?_,fun i j p q k l hij h1 h2 h3 h4 hk hl=>?_,fun b o h=>?_,fun b o h=>?_,fun i p k h1 h2 hk hlt=>?_,s.glob hm⟩
 ·rcases split i p k h1 h2 with ⟨g1,g2⟩|⟨g0,g1,g2⟩
  ·cases hlv:k.live with
   | true=>exact(hm.blk i p k g1 g2).step hm s (fun o h1 h2=>⟨zaO (hkeep _ (hm.inO i p k g1 g2 hlv (by omega))),fun _=>zaY (hkeep _ (hm.inO i p k g1 g2 hlv (by omega)))⟩) (fun e=>hkeep _ (hm.inO i p k g1 g2 hlv (by obtain⟨e1,e2,_⟩:=(hm.blk i p _ g1 g2).zc1 e;omega)))
   | false=>cases k <;> simp[Blk.live]at hlv;trivial
  ·exact hblk s _ p k g1 g2
 ·rcases split i p k h1 h2 with ⟨g1,g2⟩|⟨g0,g1,g2⟩ <;> rcases split j q l h3 h4 with ⟨g3,g4⟩|⟨g0',g3,g4⟩
  ·exact hm.apart i j p q k l hij g1 g2 g3 g4 hk hl
  ·intro e
   rcases hnew _ q l g3 g4 hl with g|g
   ·by_cases hlt:p.lo<p.hi
    ·have:=hm.inO i p k g1 g2 hk hlt;omega
    ·omega
   ·omega
  ·intro e
   rcases hnew _ p k g1 g2 hk with g|g
   ·by_cases hlt:q.lo<q.hi
    ·have:=hm.inO j q l g3 g4 hl hlt;omega
    ·omega
   ·omega
  ·exact hap _ _ p q (by omega) g1 g3
 ·rintro⟨i,p,k,h1,h2,h3,h4,h5,h6⟩
  rcases split i p k h1 h2 with ⟨g1,g2⟩|⟨g0,g1,g2⟩
  ·rcases hA' b o h with h|h
   ·exact hm.still b o h ⟨i,p,k,g1,g2,h3,h4,h5,h6⟩
   ·have:=hm.inO i p k g1 g2 h3 (by omega);omega
  ·by_cases ha:m.A b o
   ·rcases hnew _ p k g1 g2 h3 with g|g
    ·have:=hm.inA b o ha;omega
    ·omega
   ·exact hst b o h ha _ p k g1 g2 h3 ⟨h4,h5,h6⟩
 ·rcases hA' b o h with h|h
  ·exact qa0 (hm.inA b o h) hsz
  ·exact h.2
 ·rcases split i p k h1 h2 with ⟨g1,g2⟩|⟨g0,g1,g2⟩
  ·exact qa0 (hm.inO i p k g1 g2 hk hlt) hsz
  ·rcases hnew _ p k g1 g2 hk with g|g
   ·exact g.2
   ·omega
theorem zeA{m:M}(hm:HRel m)(cs:List SV)(ys:Array Value)(t:TypeId)(hl:cs.length≤ys.size)(h1:∀(i:Nat) y,ys[i]?=some y->y.oneCell'=true)(h:∀(i:Nat) c y,cs[i]?=some c->ys[i]?=some y->SRel m c y):
  let m':M:=⟨m.A,m.β++[⟨m.w.heap.size,0,ys.size⟩],m.H++[.cells cs],m.w.alloc (.cells ys t)⟩
  Step m m'/\HRel m':=by
 intro m'
 have hcell:∀o,(m.w.alloc (.cells ys t)).cell? ⟨m.w.heap.size,o,none⟩=ys[o]? :=fun o=>World.cell?_alloc_new ..
 refine grow hm (A':=m.A) (βn:=[⟨m.w.heap.size,0,ys.size⟩]) (Hn:=[.cells cs]) rfl rfl rfl (by simp) (fun b hb=>RowKit.Below.heap_alloc _ _ _ hb) (fun _ _ h=>h) (fun _ _ h=>.inl h) rfl ?_ ?_ ?_ ?_
 ·intro i p k h1 h2 h3
  cases i with
  | zero=>simp at h1;subst h1;left;simp
  | succ i=>simp at h1
 ·exact zwfk
 ·intro b o h1 h2;exact absurd h1 h2
 ·intro s i p k h1 h2
  cases i with
  | zero=>
    simp at h1 h2
    subst h1;subst h2
    refine⟨by simpa using hl,fun o _ ho=>?_,fun j c hc=>?_⟩
    ·refine⟨by simp[hcell]at ho⊢;omega,?_⟩
     exact World.frozen?_alloc_new ..
    ·have hj:=(qaa.1 hc).1
     have hy:ys[j]?=some (ys[j]'(by omega)):=qam (by omega)
     exact⟨_,by simp[hcell,hy],h1 _ _ hy,s.srel hm (h j c _ hc hy)⟩
  | succ i=>simp at h1
section rules
variable {P:Program}{n:Nat}{env:Env}{H:Heap}{K:TK}{all:Array Oper}{rest:List Oper}{tab:Tab}
variable {d:Nat}{ty:TypeId}{pos:String}{aft:Array Edge}
theorem TO.eff{op:Op}{v:SV}{H':Heap}(hd:Nat.ble (d+1) n=true)
  (h:∀(m:M) (a:Act),m.H=H->HRel m->ERel m n env a.tmps->∃x m',(execOp a.eval ⟨some d,op,ty,pos,aft,none⟩).run P m.w= .ok (.value x) m'.w/\Step m m'/\HRel m'/\m'.H=H'/\SRel m' v x)
  (k:TO false P n all rest ((d,v)::env) H' K):TO false P n all (⟨some d,op,ty,pos,aft,none⟩::rest) env H K:=by
 intro φ m a h1 h2 h3 h4
 obtain⟨x,m',hx,s,hm',hH',hr⟩:=h m a h1 h2 h3
 refine wpListIn_plain rfl fun K' hK=>?_
 unfold Oper.wpIn
 refine⟨fun _ _=>trivial,?_⟩
 rw[za6 hx (by intro d e;cases e)]
 simp only[Oper.uponIn]
 exact hK _ _ (TO.zeM s (k φ m' _ hH' hm' ((h3.step h2 s).put d (qag hd) hr) (by simpa [Act.put]using h4.step h2 s)))
theorem TO.eff0{op:Op}{H':Heap}
  (h:∀(m:M) (a:Act),m.H=H->HRel m->ERel m n env a.tmps->∃m',(execOp a.eval ⟨none,op,ty,pos,aft,none⟩).run P m.w= .ok .skip m'.w/\Step m m'/\HRel m'/\m'.H=H')
  (k:TO false P n all rest env H' K):TO false P n all (⟨none,op,ty,pos,aft,none⟩::rest) env H K:=by
 intro φ m a h1 h2 h3 h4
 obtain⟨m',hx,s,hm',hH'⟩:=h m a h1 h2 h3
 refine wpListIn_plain rfl fun K' hK=>?_
 unfold Oper.wpIn
 refine⟨fun _ _=>trivial,?_⟩
 rw[za6 hx (by intro d e;cases e)]
 simp only[Oper.uponIn]
 exact hK _ _ (TO.zeM s (k φ m' _ hH' hm' (by simpa [Act.put]using h3.step h2 s) (by simpa [Act.put]using h4.step h2 s)))
def SV.solid:SV->Bool
 | .any| .tup _=>false
 | .t (.v x)=>x.oneCell'
 | _=>true
theorem SRel.cells{m:M}{v:SV}{x:Value}(h:SRel m v x)(hv:v.solid=true):(v.cells.length=x.cells.size)/\(∀(i:Nat) y,x.cells[i]?=some y->y.oneCell'=true)/\∀(i:Nat) c y,v.cells[i]?=some c->x.cells[i]?=some y->SRel m c y:=by
 have one:∀(v:SV) (x:Value),SRel m v x->∀(i:Nat) c y,[v][i]?=some c->#[x][i]?=some y->SRel m c y:=by
  exact zwdg
 have oc:∀(x:Value),x.oneCell'=true->∀(i:Nat) y,#[x][i]?=some y->y.oneCell'=true:=by
  exact zwec
 cases h with
 | t t x h=>
   cases h with
   | ag cs arr hs h1 hr=>
     refine⟨by simp[SV.cells,Value.cells,hs],h1,fun i c y hc hy=>?_⟩
     simp only[SV.cells,qar]at hc
     cases hq:cs[i]? with
     | none=>rw[hq]at hc;cases hc
     | some u=>rw[hq]at hc;cases hc;exact .t _ _ (hr _ _ _ hq hy)
   | v x=>cases x <;> first|(simp[SV.solid,Value.oneCell']at hv;done)|exact⟨rfl,oc _ rfl,one _ _ (.t _ _ (.v _))⟩
   | nil sz=>exact⟨rfl,oc _ rfl,one _ _ (.t _ _ (.nil sz))⟩
   | empty sz a=>exact⟨rfl,oc _ rfl,one _ _ (.t _ _ (.empty sz a))⟩
   | sl sz es b off cap f h1 h2 h3 h4 h5 h6=>exact⟨rfl,oc _ rfl,one _ _ (.t _ _ (.sl sz es b off cap f h1 h2 h3 h4 h5 h6))⟩
 | ag cs arr hs h1 hr=>exact⟨hs.symm,h1,hr⟩
 | tup vs=>simp[SV.solid]at hv
 | any=>simp[SV.solid]at hv
 | sl sz es id x p h hp ho=>
   have hx:=TRel.zcf h
   obtain⟨ad,cap,rfl⟩:=hx
   exact⟨rfl,oc _ rfl,one _ _ (.sl sz es id _ p h hp ho)⟩
 | ms sz id off len cap p hp hn hc hh=>exact⟨rfl,oc _ rfl,one _ _ (.ms sz id off len cap p hp hn hc hh)⟩
 | cp cs off b o f h1 hA hw h=>exact⟨rfl,oc _ rfl,one _ _ (.cp cs off b o f h1 hA hw h)⟩
 | ref id off p hp hn=>exact⟨rfl,oc _ rfl,one _ _ (.ref id off p hp hn)⟩
 | tref e n id off p hp hn h0 hs=>exact⟨rfl,oc _ rfl,one _ _ (.tref e n id off p hp hn h0 hs)⟩
 | rw id len x p hp hx ho=>obtain⟨ad,n,c,rfl⟩:=hx;exact⟨rfl,oc _ rfl,one _ _ (.rw id len _ p hp ⟨ad,n,c,rfl⟩ ho)⟩
 | mp id p hp hn=>exact⟨rfl,oc _ rfl,one _ _ (.mp id p hp hn)⟩
 | yl id p hp hn=>exact⟨rfl,oc _ rfl,one _ _ (.yl id p hp hn)⟩
 | fn f cs arr hs h=>exact⟨rfl,oc _ rfl,one _ _ (.fn f cs arr hs h)⟩
 | bnd f cs arr hs h=>exact⟨rfl,oc _ rfl,one _ _ (.bnd f cs arr hs h)⟩
 | ifc ty s x h=>exact⟨rfl,oc _ rfl,one _ _ (.ifc ty s x h)⟩
theorem TO.box{t:TypeId}{x:Operand}{v:SV}{cs:List SV}(hd:Nat.ble (d+1) n=true)(hx:env.val x=some v)(hv:v.solid=true)(hc:v.cells=cs)
  (k:TO false P n all rest ((d,.ref H.length 0)::env) (H++[.cells cs]) K):TO false P n all (⟨some d,.box t x,ty,pos,aft,none⟩::rest) env H K:=
 TO.eff hd (fun m ac h1 h2 h3=>by
  obtain⟨g1,g0,g2⟩:=(h3.val hx).cells hv
  rw[hc]at g1 g2
  obtain⟨s,hm'⟩:=zeA h2 cs (ac.eval x).cells t (by omega) g0 g2
  refine⟨.pointer (some ⟨m.w.heap.size,0,none⟩),_,?_,s,hm',by rw[h1],?_⟩
  ·simp[execOp,Instr.box,newVar,newRow]
  ·rw[<-h1]
   exact SRel.ref (m:=⟨m.A,m.β++[⟨m.w.heap.size,0,(ac.eval x).cells.size⟩],m.H++[.cells cs],m.w.alloc (.cells (ac.eval x).cells t)⟩) m.H.length 0 ⟨m.w.heap.size,0,(ac.eval x).cells.size⟩
    (by simp[h2.len]) (by intro q;simp[tlOf])) k
theorem zb3{A:Foot}{w:World}:∀(ts:List T) (vs:List Value),zdR ts vs=true->ts.length=vs.length/\(∀(i:Nat) y,vs[i]?=some y->y.oneCell'=true)/\∀(i:Nat) c y,ts[i]?=some c->vs[i]?=some y->TRel A w c y
 | [],[],_=>by simp
 | [],v::vs,h=>by simp[zdR]at h
 | t::ts,[],h=>by simp[zdR]at h
 | t::ts,v::vs,h=>by
   simp only[zdR,qau]at h
   obtain⟨g1,g0,g2⟩:=zb3 ts vs h.2
   have h0:=h.1
   refine⟨by simp[g1],fun i y hy=>?_,fun i c y hc hy=>?_⟩
   ·cases i with
    | zero=>
      simp at hy;subst hy
      unfold T.fits at h0
      split at h0 <;> first|(cases h0;done)|rfl
    | succ i=>exact g0 i y (by simpa using hy)
   cases i with
   | zero=>
     simp at hc hy;subst hc;subst hy
     unfold T.fits at h0
     split at h0 <;> first
      | (cases h0;done)
      | (simp at h0;obtain⟨rfl,rfl⟩:=h0;exact .v _)
      | (simp at h0;subst h0;exact .v _)
      | exact .nil _
      | exact .v _
      | (simp at h0;rename_i a b;cases a;cases b;simp at h0;subst h0;exact .v _)
   | succ i=>exact g2 i c y (by simpa using hc) (by simpa using hy)
theorem Fit.zero{t:TypeId}{i:TyI}(h:Fit P t i):∃z,(∀w,(zeroValue t).run P w= .ok z w)/\zdR i.zero z.cells.toList=true/\(i.k.agg=true->∃cs,z= .agg cs)/\(i.k.agg=false->z.oneCell'=true):=by
 obtain⟨dd,ti,z,h1,h2,h3,h4,h5,h6,h7,h8,h9⟩:=h.ex
 exact⟨z,fun w=>by simp[zeroValue,typeInfo,h2,h6],h7,h8,h9⟩
theorem TO.alloc(hT:zaw P tab){t:TypeId}{i:TyI}{cs:List SV}(hd:Nat.ble (d+1) n=true)(ht:tab.get t=some i)(hc:i.zero.map SV.t=cs)
  (k:TO false P n all rest ((d,.ref H.length 0)::env) (H++[.cells cs]) K):TO false P n all (⟨some d,.alloc t,ty,pos,aft,none⟩::rest) env H K:=
 TO.eff hd (fun m ac h1 h2 h3=>by
  obtain⟨z,hz1,hz2,_,_⟩:=(hT t i ht).zero
  obtain⟨g1,g0,g2⟩:=zb3 (A:=m.A) (w:=m.w) _ _ hz2
  obtain⟨s,hm'⟩:=zeA h2 cs z.cells t (by rw[<-hc];simp[g1]) (fun j y hy=>g0 j y (by simpa using hy)) (fun j c y hj hy=>by
   rw[<-hc,qar]at hj
   cases hq:i.zero[j]? with
   | none=>rw[hq]at hj;cases hj
   | some u=>rw[hq]at hj;cases hj;exact .t _ _ (g2 j u y hq (by simpa using hy)))
  refine⟨.pointer (some ⟨m.w.heap.size,0,none⟩),_,?_,s,hm',by rw[h1],?_⟩
  ·simp[execOp,Instr.alloc,hz1,newVar,newRow]
  ·rw[<-h1]
   exact SRel.ref (m:=⟨m.A,m.β++[⟨m.w.heap.size,0,z.cells.size⟩],m.H++[.cells cs],m.w.alloc (.cells z.cells t)⟩) m.H.length 0 ⟨m.w.heap.size,0,z.cells.size⟩
    (by simp[h2.len]) (by intro q;simp[tlOf])) k
theorem upd{m:M}(hm:HRel m){id:Nat}{p:Place}{cs cs':List SV}{w':World}(hp:m.β[id]?=some p)(hH:m.H[id]?=some (.cells cs))(hos:w'.os=m.w.os)(htp:w'.tape=m.w.tape)(hou:w'.output=m.w.output)
  (hsz:w'.heap.size=m.w.heap.size)(hoth:∀b,b≠p.b->w'.heap[b]?=m.w.heap[b]?)(hcell:∀o,¬(p.lo≤o/\o<p.hi)->w'.cell? ⟨p.b,o,none⟩=m.w.cell? ⟨p.b,o,none⟩)
  (hfr:∀o,w'.frozen? ⟨p.b,o,none⟩=m.w.frozen? ⟨p.b,o,none⟩)(hsm:∀o,(w'.cell? ⟨p.b,o,none⟩).isSome=(m.w.cell? ⟨p.b,o,none⟩).isSome)(hshp:∀s,m.w.shape? p.b=some s->w'.shape? p.b=some s)(hl:p.lo+cs'.length≤p.hi)(hlt:p.lo<p.hi)
  (hnew:∀(j:Nat) c,cs'[j]?=some c->∃y,w'.cell? ⟨p.b,p.lo+j,none⟩=some y/\y.oneCell'=true/\SRel m c y):
  Step m ⟨m.A,m.β,m.H.set id (.cells cs'),w'⟩/\HRel ⟨m.A,m.β,m.H.set id (.cells cs'),w'⟩:=by
 have hid:=(qaa.1 hH).1
 have own:∀b o,Own ⟨m.A,m.β,m.H.set id (.cells cs'),w'⟩ b o ↔ Own m b o:=by
  intro b o
  constructor
  ·rintro⟨i,q,k,h1,h2,h3,h4⟩
   by_cases hi:i=id
   ·subst hi
    have h1':m.β[i]?=some q:=h1
    have:q=p:=by rw[hp]at h1';cases h1';rfl
    subst this
    exact⟨i,q,_,hp,hH,rfl,h4⟩
   ·have h2':(m.H.set id (.cells cs'))[i]?=some k:=h2
    rw[qaF (by omega)]at h2'
    exact⟨i,q,k,h1,h2',h3,h4⟩
  ·rintro⟨i,q,k,h1,h2,h3,h4⟩
   by_cases hi:i=id
   ·subst hi
    refine⟨i,q,.cells cs',h1,?_,rfl,h4⟩
    show(m.H.set i (.cells cs'))[i]?=_
    rw[qav hid]
   ·refine⟨i,q,k,h1,?_,h3,h4⟩
    show(m.H.set id (.cells cs'))[i]?=_
    rw[qaF (by omega)];exact h2
 have inp:∀o,p.lo≤o->o<p.hi->Own m p.b o:=fun o h1 h2=>⟨id,p,_,hp,hH,rfl,rfl,h1,h2⟩
 have cellA:∀b o,¬Own m b o->w'.cell? ⟨b,o,none⟩=m.w.cell? ⟨b,o,none⟩:=by
  intro b o hn
  by_cases hb:b=p.b
  ·subst hb
   exact hcell o fun h=>hn (inp o h.1 h.2)
  ·exact zaO (hoth b hb)
 have s:Step m ⟨m.A,m.β,m.H.set id (.cells cs'),w'⟩:=by
  refine⟨hos,htp,hou,by rw[hsz];exact qae _,fun _ _ h=>h,fun _ _ h=>.inl h,fun b o h=>.inl ((own b o).1 h),fun b o _ hn=>cellA b o hn,fun b o _ hn _=>?_,fun b hb hn=>?_,fun b sh hs=>?_,fun b L hL=>?_,fun b o hb h=>?_,fun i q hq=>⟨q,hq,?_⟩⟩
  ·by_cases hb:b=p.b
   ·subst hb;exact hfr o
   ·exact zaY (hoth b hb)
  ·by_cases hb:b=p.b
   ·exact absurd (inp p.lo (qae _) hlt) (by rw[<-hb];exact hn p.lo)
   ·exact hoth b hb
  ·by_cases hb':b=p.b
   ·subst hb';exact hshp sh hs
   ·show w'.shape? b=_
    rw[zbE (hoth b hb')];exact hs
  ·by_cases hb':b=p.b
   ·subst hb'
    have:=((hm.blk id p _ hp hH).2.1 p.lo (qae _) hlt).1
    simp[World.cell?,hL]at this
   ·exact⟨L,by show w'.heap[b]?=_;rw[hoth b hb'];exact hL⟩
  ·by_cases hb':b=p.b
   ·subst hb';rw[<-hsm]at h;exact h
   ·rw[zaO (hoth b hb')];exact h
  ·by_cases hi:i=id
   ·subst hi
    show zaZ m.H[i]? (m.H.set i (.cells cs'))[i]? q q
    rw[qav hid,hH]
    exact⟨rfl,by intro n h;cases h⟩
   ·refine zb4 ?_
    show(m.H.set id (.cells cs'))[i]?=m.H[i]?
    rw[qaF (by omega)]
 have nomap:∀a clock,m.w.heap[p.b]? ≠some (.map a clock):=by
  intro a clock e
  have:=((hm.blk id p _ hp hH).2.1 p.lo (qae _) hlt).1
  simp[World.cell?,e]at this
 refine⟨s,by simpa using hm.len,fun i q k h1 h2=>?_,fun i j q r k l hij h1 h2 h3 h4 hk hl'=>?_,fun b o h hn=>hm.still b o h ((own b o).1 hn),fun b o h=>by rw[show(⟨m.A,m.β,m.H.set id (.cells cs'),w'⟩:M).w.heap.size=m.w.heap.size from hsz];exact hm.inA b o h,fun i q k h1 h2 hk hq=>?_,s.glob hm⟩
 ·by_cases hi:i=id
  ·subst hi
   have h1':m.β[i]?=some q:=h1
   have:q=p:=by rw[hp]at h1';cases h1';rfl
   subst this
   have h2':(m.H.set i (.cells cs'))[i]?=some k:=h2
   rw[qav hid]at h2'
   cases h2'
   refine⟨hl,fun o ho ho'=>?_,fun j c hc=>?_⟩
   ·have:=(hm.blk i q _ hp hH).2.1 o ho ho'
    exact⟨by rw[show(World.cell? _ _)=w'.cell? ⟨q.b,o,none⟩ from rfl,hsm];exact this.1,by rw[show(World.frozen? _ _)=w'.frozen? ⟨q.b,o,none⟩ from rfl,hfr];exact this.2⟩
   ·obtain⟨y,hy1,hy0,hy2⟩:=hnew j c hc
    exact⟨y,hy1,hy0,s.srel hm hy2⟩
  ·have h2':(m.H.set id (.cells cs'))[i]?=some k:=h2
   rw[qaF (by omega)]at h2'
   have hb:=hm.blk i q k h1 h2'
   cases hlv:k.live with
   | false=>cases k <;> simp[Blk.live]at hlv;trivial
   | true=>
     have hap:=hm.apart i id q p k _ hi h1 h2' hp hH hlv rfl
     refine hb.step hm s (fun o ho ho'=>?_) (fun e=>?_)
     ·by_cases hqb:q.b=p.b
      ·have:=hap hqb
       rw[hqb]
       exact⟨hcell o (by omega),fun _=>hfr o⟩
      ·exact⟨zaO (hoth _ hqb),fun _=>zaY (hoth _ hqb)⟩
     ·by_cases hqb:q.b=p.b
      ·exfalso
       have h5:=(hb.zc1 e).2.2 p.lo
       rw[hqb]at h5
       have:=((hm.blk id p _ hp hH).2.1 p.lo (qae _) hlt).1
       rw[h5]at this;cases this
      ·exact hoth _ hqb
 ·have pick:∀(i:Nat) k,(m.H.set id (.cells cs'))[i]?=some k->k.live=true->∃k',m.H[i]?=some k'/\k'.live=true:=by
   intro i k h hk
   by_cases hi:i=id
   ·subst hi;exact⟨_,hH,rfl⟩
   ·rw[qaF (by omega)]at h;exact⟨k,h,hk⟩
  obtain⟨k1,g1,g2⟩:=pick i k h2 hk
  obtain⟨k2,g3,g4⟩:=pick j l h4 hl'
  exact hm.apart i j q r k1 k2 hij h1 g1 h3 g3 g2 g4
 ·show q.b<w'.heap.size
  rw[hsz]
  by_cases hi:i=id
  ·subst hi;exact hm.inO i q _ h1 hH rfl hq
  ·have h2':(m.H.set id (.cells cs'))[i]?=some k:=h2
   rw[qaF (by omega)]at h2'
   exact hm.inO i q k h1 h2' hk hq
end rules
end Go.TL
