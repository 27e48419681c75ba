import Derived.DeepKeys5
import Derived.Lib.ItoaNum
import Derived.Test.YtpnnpgbaiobbjaaGreatDoorBk15
set_option linter.all false
namespace Go.Proofs.YtpnnpgbaiobbjaaGreatDoor
open Go Go.TL
attribute [local irreducible] TR TO Then zap RetK Sound zab Kf GG za3
theorem kStr:Maps.Keyed Tryz.prog 9:=Maps.string_keyed Tryz.underlying9
set_option maxRecDepth 100000 in
theorem kKey:Maps.Keyed Tryz.prog 165:=Maps.Keyed.of_law (deep_law_laid (m:=3) (by kernel_rfl) (by decide) (qai (by kernel_rfl)) (by kernel_rfl) (by kernel_rfl))
theorem keyS{s:Str}(h:s.length≤1000000000):∃l,keyOf Tryz.prog 9 (str s)=some l:=by
 refine⟨.string s,?_⟩
 have:(⟨s.toArray⟩:ByteArray).size≤maxLen:=by
  show s.toArray.size≤maxLen
  simp[maxLen];omega
 simp[keyOf,Tryz.underlying9,mapKey,this]
abbrev keyV (k:Int)(s:Str):Value:=.agg #[.int .i64 k,str s]
theorem zwF:Tryz.prog.keyType 165=true:=by kernel_rfl
theorem ztx:Tryz.prog.cellsOf 165=2:=by kernel_rfl
theorem zvs:Tryz.prog.cellsOf 3=1:=by kernel_rfl
theorem zvt:Tryz.prog.cellsOf 9=1:=by kernel_rfl
theorem zv3:∃N,Tryz.prog.types.size=N+1:=⟨Tryz.prog.types.size-1,by kernel_rfl⟩
theorem zsS(N:Nat){k:Int}{s:Str}(hw:(Lit.int .i64 k).wf=true)(hs:(⟨s.toArray⟩:ByteArray).size≤maxLen):
  (Tryz.prog.keyLits (N+1+1) 165 [.int .i64 k,str s])=some [.int .i64 k,.string s]:=by
 have e1:∀c,Tryz.prog.keyLits (N+1) 3 [c]=(match c with| .int q' n=>if q'= .i64/\(Lit.int .i64 n).wf=true then some [.int .i64 n] else none|_=>none):=fun c=>by
  unfold Program.keyLits
  simp only[Tryz.underlying3]
  cases c <;> rfl
 have e2:Tryz.prog.keyLits (N+1) 9 [str s]=some [.string s]:=by
  unfold Program.keyLits
  simp only[Tryz.underlying9]
  rw[if_pos hs]
 unfold Program.keyLits
 simp only[Tryz.underlying165,ztx]
 simp only[qam,qaE,qbV,List.mapM_nil,zvs,zvt,qbn,List.take,List.drop,e1,e2,hw]
 simp
theorem keyK{k:Int}{s:Str}(hk:0≤k/\k≤2)(h:s.length≤1000000000):∃l,keyOf Tryz.prog 165 (keyV k s)=some l:=by
 have hs:(⟨s.toArray⟩:ByteArray).size≤maxLen:=by
  show s.toArray.size≤maxLen
  simp[maxLen];omega
 have hw:(Lit.int .i64 k).wf=true:=by
  simp only[Lit.wf,qay,decide_eq_true_eq]
  exact⟨by show(-9223372036854775808:Int)≤k;omega,by show k≤(9223372036854775807:Int);omega⟩
 have h5:(Value.agg #[.int .i64 k,str s]).formed Tryz.prog 165=true:=by
  simp only[Value.formed,Tryz.underlying165,ztx];rfl
 obtain⟨N,hN⟩:=zv3
 refine⟨.string (keyBytes [.int .i64 k,.string s]),?_⟩
 rw[keyOf,Tryz.underlying165]
 simp only[zwF,h5,hN,Value.cells,Bool.and_self,if_true,zsS N hw hs,qbb]
def ins(l:List Str)(s:Str):List Str:=if s∈l then l else l++[s]
abbrev setB (l:List Str):Blk:=.map 9 4 (l.map fun s=>(str s,.v (.bool true)))
abbrev zb0 (l:List (Int×Str×Int)):Blk:=.map 165 3 (l.map fun e=>(keyV e.1 e.2.1,.v (.int .i64 e.2.2)))
structure zaw (l:List Str):Prop where
 nodup:l.Nodup
 short:∀s∈l,s.length≤1000000000
structure zaX (l:List (Int×Str×Int)):Prop where
 nodup:(l.map fun e=>(e.1,e.2.1)).Nodup
 short:∀e∈l,(0≤e.1/\e.1≤2)/\e.2.1.length≤1000000000
def zaN(l:List (Int×Str×Int))(k:Int)(s:Str):Option Int:=(l.find? fun e=>decide (e.1=k/\e.2.1=s)).map fun e=>e.2.2
theorem str_inj{a b:Str}(h:str a=str b):a=b:=by
 simp only[str,Value.string.injEq,ByteArray.mk.injEq]at h
 simpa using h
theorem zoo{k j:Int}{a b:Str}(h:keyV k a=keyV j b):k=j/\a=b:=by
 simp only[keyV,Value.agg.injEq,Array.mk.injEq,qbg,Value.int.injEq,true_and,and_true]at h
 exact⟨h.1,str_inj h.2⟩
theorem zaw.nil:zaw []:=⟨qbw,by simp⟩
theorem zaw.ins{l:List Str}{s:Str}(h:zaw l)(hs:s.length≤1000000000):zaw (ins l s):=by
 unfold Go.Proofs.YtpnnpgbaiobbjaaGreatDoor.ins
 split
 ·exact h
 ·rename_i hn
  refine⟨qbt.2 ⟨h.nodup,by simp,fun a ha b hb e=>?_⟩,fun x hx=>?_⟩
  ·simp at hb;subst hb;subst e;exact hn ha
  ·simp at hx;rcases hx with hx|rfl
   ·exact h.short x hx
   ·exact hs
theorem zaw.keys{l:List Str}(h:zaw l):zkJ Tryz.prog 9 (l.map fun s=>(str s,.v (.bool true))):=by
 intro j e he
 rw[qav]at he
 cases hq:l[j]? with
 | none=>rw[hq]at he;cases he
 | some s=>rw[hq]at he;cases he;exact keyS (h.short s (qat hq))
theorem zaX.nil:zaX []:=⟨qbw,by simp⟩
theorem zaX.keys{l:List (Int×Str×Int)}(h:zaX l):zkJ Tryz.prog 165 (l.map fun e=>(keyV e.1 e.2.1,.v (.int .i64 e.2.2))):=by
 intro j e he
 rw[qav]at he
 cases hq:l[j]? with
 | none=>rw[hq]at he;cases he
 | some s=>rw[hq]at he;cases he;have:=h.short s (qat hq);exact keyK this.1 this.2
theorem zaX.add{l:List (Int×Str×Int)}{k v:Int}{s:Str}(h:zaX l)(hk:0≤k/\k≤2)(hs:s.length≤1000000000)(hn:zaN l k s=none):zaX (l++[(k,s,v)]):=by
 refine⟨?_,fun e he=>?_⟩
 ·rw[qal]
  refine qbt.2 ⟨h.nodup,by simp,fun a ha b hb e=>?_⟩
  simp at hb;subst hb;subst e
  obtain⟨e,he,heq⟩:=qa2.1 ha
  simp only[zaN,Option.map_eq_none_iff,List.find?_eq_none,decide_eq_true_eq]at hn
  simp only[qce]at heq
  exact hn e he heq
 ·simp at he;rcases he with he|rfl
  ·exact h.short e he
  ·exact⟨hk,hs⟩
theorem zrF{l:List Str}(h:zaw l)(s:Str):zpI (l.map fun s=>(str s,T.v (.bool true))) (str s) (if s∈l then some (.v (.bool true)) else none):=by
 by_cases hm:s∈l
 ·rw[if_pos hm]
  obtain⟨j,hj⟩:=qbc hm
  refine⟨j,by simp[hj],fun j' t' h'=>?_⟩
  rw[qav]at h'
  cases hq:l[j']? with
  | none=>rw[hq]at h';cases h'
  | some x=>
    rw[hq]at h'
    simp only[qbb,qaH,qce]at h'
    have:=str_inj h'.1
    subst this
    exact(List.getElem?_inj (qab.1 hq).1 h.nodup).1 (hq.trans hj.symm)
 ·rw[if_neg hm]
  intro j e he e2
  rw[qav]at he
  cases hq:l[j]? with
  | none=>rw[hq]at he;cases he
  | some x=>
    rw[hq]at he;cases he
    have:=str_inj e2
    subst this
    exact hm (qat hq)
theorem zu3{l:List Str}(h:zaw l)(s:Str):ztr (l.map fun s=>(str s,T.v (.bool true))) (str s) (.v (.bool true)) ((ins l s).map fun s=>(str s,T.v (.bool true))):=by
 have hg:=zrF h s
 unfold ins
 by_cases hm:s∈l
 ·rw[if_pos hm]at hg⊢
  obtain⟨j,hj,hu⟩:=hg
  refine .inl ⟨j,_,hj,hu,?_⟩
  have hlt:=(qab.1 hj)
  conv=>rhs;rw[<-hlt.2]
  rw[qb3]
 ·rw[if_neg hm]at hg⊢
  exact .inr ⟨hg,by simp⟩
theorem zoA{l:List (Int×Str×Int)}(h:zaX l)(k:Int)(s:Str):zpI (l.map fun e=>(keyV e.1 e.2.1,T.v (.int .i64 e.2.2))) (keyV k s) ((zaN l k s).map fun v=>.v (.int .i64 v)):=by
 unfold zaN
 cases hf:l.find? (fun e=>decide (e.1=k/\e.2.1=s)) with
 | none=>
   rw[List.find?_eq_none]at hf
   intro j e he e2
   rw[qav]at he
   cases hq:l[j]? with
   | none=>rw[hq]at he;cases he
   | some x=>
     rw[hq]at he;cases he
     exact hf x (qat hq) (by simpa using zoo e2)
 | some e=>
   have hm:=List.mem_of_find?_eq_some hf
   have hp:=List.find?_some hf
   simp only[decide_eq_true_eq]at hp
   obtain⟨j,hj⟩:=qbc hm
   refine⟨j,by simp[hj,hp.1,hp.2],fun j' t' h'=>?_⟩
   rw[qav]at h'
   cases hq:l[j']? with
   | none=>rw[hq]at h';cases h'
   | some x=>
     rw[hq]at h'
     simp only[qbb,qaH,qce]at h'
     have h1:=zoo h'.1
     have e1:(l.map fun e=>(e.1,e.2.1))[j']?=some (k,s):=by simp[hq,h1.1,h1.2]
     have e2:(l.map fun e=>(e.1,e.2.1))[j]?=some (k,s):=by simp[hj,hp.1,hp.2]
     exact(List.getElem?_inj (qab.1 e1).1 h.nodup).1 (e1.trans e2.symm)
theorem zq2{k:Int}{s:Str}{m:M}{v:Value}(h:SRel m (.t (.ag [.i k,.s s])) v):v=keyV k s:=by
 cases h with
 | t _ _ h=>
   cases h with
   | ag _ arr hs h1 h2=>
     obtain⟨l⟩:=arr
     match l,hs with
     | [a,b],_=>
       have ha:=h2 0 _ a rfl rfl
       have hb:=h2 1 _ b rfl rfl
       cases ha;cases hb
       rfl
section
variable {n:Nat}{env:Env}{K:TK}{all:Array Oper}{rest:List Oper}{d id:Nat}{ty:TypeId}{pos:String}{aft:Array Edge}{H:Heap}{x y w:Operand}{q:Bool}
theorem TO.zf1{l:List Str}{s:Str}(hd:Nat.ble (d+1) n=true)(hx:env.val x=some (.mp id))(hH:H[id]?=some (setB l))(hy:env.val y=some (.s s))(hl:zaw l)(hs:s.length≤1000000000)
  (k1:s∈l->TO q Tryz.prog n all rest ((d,.b true)::env) H K)(k2:s ∉ l->TO q Tryz.prog n all rest ((d,.b false)::env) H K):
  TO q Tryz.prog n all (⟨some d,.lookup 88 x y false,ty,pos,aft,none⟩::rest) env H K:=by
 refine TO.lookup zag hd rfl rfl rfl rfl rfl kStr hx hH hl.keys hy (kx:=str s) (fun m v h=>h.v_eq) (keyS hs) (zrF hl s) ?_
 by_cases hm:s∈l
 ·rw[if_pos hm];exact k1 hm
 ·rw[if_neg hm];exact k2 hm
theorem TO.zjA{s:Str}(hd:Nat.ble (d+1) n=true)(hx:env.val x=some (.t (.v (.map none))))(hy:env.val y=some (.s s))(hs:s.length≤1000000000)(k:TO q Tryz.prog n all rest ((d,.b false)::env) H K):
  TO q Tryz.prog n all (⟨some d,.lookup 88 x y false,ty,pos,aft,none⟩::rest) env H K:=
 TO.lookup_nil zag hd rfl rfl rfl rfl rfl kStr hx hy (kx:=str s) (fun m v h=>h.v_eq) (keyS hs) k
theorem TO.zee{l:List Str}{s:Str}{H':Heap}(hx:env.val x=some (.mp id))(hH:H[id]?=some (setB l))(hy:env.val y=some (.s s))(hw:env.val w=some (.b true))(hl:zaw l)(hs:s.length≤1000000000)
  (hH':setS H id (setB (ins l s))=some H')(k:TO false Tryz.prog n all rest env H' K):
  TO false Tryz.prog n all (⟨none,.mapUpdate 88 x y w,ty,pos,aft,none⟩::rest) env H K:=
 TO.mapUpdate zag rfl rfl kStr hx hH hl.keys hy (kx:=str s) (fun m v h=>h.v_eq) (keyS hs) hw rfl (zu3 hl s) (zku hH').symm k
theorem TO.zkt{l:List (Int×Str×Int)}{s:Str}{k:Int}(hd:Nat.ble (d+1) n=true)(hx:env.val x=some (.mp id))(hH:H[id]?=some (zb0 l))(hy:env.val y=some (.t (.ag [.i k,.s s])))(hl:zaX l)(hk:0≤k/\k≤2)(hs:s.length≤1000000000)
  (k1:∀v,zaN l k s=some v->TO q Tryz.prog n all rest ((d,.tup [.i v,.b true])::env) H K)(k2:zaN l k s=none->TO q Tryz.prog n all rest ((d,.tup [.i 0,.b false])::env) H K):
  TO q Tryz.prog n all (⟨some d,.lookup 160 x y true,ty,pos,aft,none⟩::rest) env H K:=by
 refine TO.lookup zag hd rfl rfl rfl rfl rfl kKey hx hH hl.keys hy (kx:=keyV k s) (fun m v h=>zq2 h) (keyK hk hs) (zoA hl k s) ?_
 cases hg:zaN l k s with
 | none=>exact k2 hg
 | some v=>exact k1 v hg
theorem TO.zu0{l:List (Int×Str×Int)}{s:Str}{k v:Int}{H':Heap}(hx:env.val x=some (.mp id))(hH:H[id]?=some (zb0 l))(hy:env.val y=some (.t (.ag [.i k,.s s])))(hw:env.val w=some (.i v))(hl:zaX l)(hn:zaN l k s=none)(hk:0≤k/\k≤2)(hs:s.length≤1000000000)
  (hH':setS H id (zb0 (l++[(k,s,v)]))=some H')(kk:TO false Tryz.prog n all rest env H' K):
  TO false Tryz.prog n all (⟨none,.mapUpdate 160 x y w,ty,pos,aft,none⟩::rest) env H K:=by
 have hg:=zoA hl k s
 rw[hn]at hg
 exact TO.mapUpdate zag rfl rfl kKey hx hH hl.keys hy (kx:=keyV k s) (fun m v h=>zq2 h) (keyK hk hs) hw rfl (.inr ⟨hg,by rw[qal];rfl⟩) (zku hH').symm kk
end
def zaE(a:List Str)(ds:List Decl):List Str:=ds.foldl (fun a d=>d.clock.foldl (fun a o=>ins a o.name) (ins a d.name)) a
def lhsL(a:List Str)(qs:List Equ):List Str:=qs.foldl (fun a q=>q.left.foldl ins a) a
def zaT:Nat->List Str->List Equ->List Auto->List Str
 | 0,a,_,_=>a
 | m+1,a,qs,l=>l.foldl (fun a x=>x.states.foldl (fun a s=>zaT m (zaE (ins a s.name) s.locals) s.eqs s.autos) a) (lhsL a qs)
def zh8(k:Int):Bool:=decide (k≠1/\k≠3/\k≠4/\k≠5/\k≠6/\k≠7/\k≠11)
def oneL(a:List Str)(x:Ex):List Str:=if zh8 x.kind.1=true then ins a x.name else a
def zbW(a:List Str)(e:Ex):List Str:=(flat e).foldl oneL a
def zbI:Nat->List Str->List Equ->List Auto->List Str
 | 0,a,_,_=>a
 | m+1,a,qs,l=>l.foldl (fun a x=>x.states.foldl (fun a s=>(s.unl++s.unt).foldl (fun a t=>zbW a t.cond) (zbI m a s.eqs s.autos)) a) (qs.foldl (fun a q=>zbW a q.right) a)
def zhT(m:Nat)(a:List Str)(n:Nod):List Str:=(n.assume++n.ensure).foldl zbW (zbI m a n.eqs n.autos)
def zgq(m:Nat)(a:List Str)(n:Nod):List Str:=zhT m (zaT m (zaE (ins a n.name) (zav n)) n.eqs n.autos) n
def zdW(a:List Str)(u:En):List Str:=u.tags.foldl ins (ins a u.name)
def zec(m:Nat)(p:Prog):List Str:=p.nodes.foldl (zgq m) (p.enums.foldl zdW [])
theorem zfi(a:List Str)(s:Str):a ⊆ ins a s:=fun x hx=>by
 unfold ins
 split
 ·exact hx
 ·exact qbu _ hx
theorem zuF(a:List Str)(s:Str):s∈ins a s:=by
 unfold ins
 split
 ·assumption
 ·simp
def valD(s:Str):Nat:=s.foldl (fun a c=>10*a+(c.toNat-48)) 0
theorem znJ:∀(m u:Nat),u≤m->valD (Go.Lib.decDigits u)=u
 | m,u,h=>by
   have hd:∀k:Nat,k<10->(UInt8.ofNat (48+k)).toNat-48=k:=by
    intro k hk
    have:k=0\/k=1\/k=2\/k=3\/k=4\/k=5\/k=6\/k=7\/k=8\/k=9:=by omega
    rcases this with rfl|rfl|rfl|rfl|rfl|rfl|rfl|rfl|rfl|rfl <;> rfl
   rw[Go.Lib.decDigits]
   split
   ·rename_i hu
    simp[valD]
    omega
   ·cases m with
    | zero=>omega
    | succ m=>
      have ih:=znJ m (u / 10) (by omega)
      unfold valD at ih⊢
      rw[qa5,ih]
      simp only[qaT,List.foldl_nil,hd _ (Nat.mod_lt _ (by decide:0<10))]
      omega
def zdz(base:Str)(n:Nat):Str:=base++[95]++Go.Lib.itoa (n:Int)
theorem zrl{base:Str}{n k:Nat}(h:zdz base n=zdz base k):n=k:=by
 have h1:Go.Lib.itoa (n:Int)=Go.Lib.itoa (k:Int):=List.append_cancel_left h
 unfold Go.Lib.itoa at h1
 rw[if_neg (by omega),if_neg (by omega)]at h1
 have h2:=congrArg valD h1
 rw[znJ _ _ (qag _),znJ _ _ (qag _)]at h2
 omega
def frs(l:List Str)(base:Str):Nat->Nat->Nat
 | 0,n=>n
 | f+1,n=>if zdz base n∈l then frs l base f (n+1) else n
theorem zqT(l:List Str)(base:Str):∀(f n:Nat),(zdz base (frs l base f n) ∉ l/\frs l base f n<n+f/\∀i,n≤i->i<frs l base f n->zdz base i∈l)\/∀i,n≤i->i<n+f->zdz base i∈l
 | 0,n=>.inr fun i h1 h2=>by omega
 | f+1,n=>by
   unfold frs
   split
   ·rename_i hm
    rcases zqT l base f (n+1)with ⟨h1,h2,h3⟩|h
    ·refine .inl ⟨h1,by omega,fun i q1 q2=>?_⟩
     by_cases hi:i=n
     ·rw[hi];exact hm
     ·exact h3 i (by omega) q2
    ·refine .inr fun i q1 q2=>?_
     by_cases hi:i=n
     ·rw[hi];exact hm
     ·exact h i (by omega) (by omega)
   ·rename_i hm
    exact .inl ⟨hm,by omega,fun i q1 q2=>by omega⟩
theorem zjs(l:List Str)(base:Str)(n:Nat):zdz base (frs l base (l.length+1) n) ∉ l/\frs l base (l.length+1) n<n+(l.length+1)/\∀i,n≤i->i<frs l base (l.length+1) n->zdz base i∈l:=by
 rcases zqT l base (l.length+1) n with h|h
 ·exact h
 ·exfalso
  have h1:((List.range (l.length+1)).map fun i=>zdz base (n+i)).Nodup:=by
   refine List.Pairwise.map _ (fun a b (hab:a≠b)=>?_) qcz
   intro he
   have:=zrl he
   omega
  have h2:=h1.length_le_of_subset (l₂:=l) (by
   intro x hx
   obtain⟨i,hi,rfl⟩:=qa2.1 hx
   have:=List.mem_range.1 hi
   exact h (n+i) (by omega) (by omega))
  simp at h2
  omega
def zaF(l:List Str)(base:Str):Str:=zdz base (frs l base (l.length+1) 1)
theorem zlk(l:List Str)(base:Str):zaF l base ∉ l:=(zjs l base 1).1
end Go.Proofs.YtpnnpgbaiobbjaaGreatDoor
namespace Go.Proofs.YtpnnpgbaiobbjaaGreatDoor
open Go Go.TL
attribute [local irreducible] TR TO Then zap RetK Sound zab Kf GG za3
structure Lv where
 own:List Str
 done:List Str
 defs:List Str
structure Lv.ok (a:Lv):Prop where
 own:zaw a.own
 done:zaw a.done
inductive Ch where
 | one (a:Lv)
 | c1 (i:List Str) (a:Lv)
 | c2 (i:List Str) (a b:Lv)
 | c3 (i:List Str) (a b c:Lv)
 | c4 (i:List Str) (a b c d:Lv)
abbrev nilP:SV:=.t (.v (.pointer none))
abbrev nilM:SV:=.t (.v (.map none))
abbrev nilS:SV:=.t (.v (.slice none 0 0))
abbrev rowB (l:List Str):Blk:=.row 9 (l.map T.s)
abbrev nmB (up:SV)(b:Nat)(inp:SV)(a:Lv):Blk:=.cells [up,.mp b,.mp (b+1),inp,.rw (b+3) (a.defs.map T.s).length]
abbrev lkB (p:Prog)(n q:Int):Blk:=.cells [.t (.sl 2 (p.enums.map enT)),.t (zaA p.nodes),.i n,.i q,.mp 1]
namespace Ch
def vis0:Ch->List Str
 | one _=>[]|c1 _ _=>[]|c2 _ a _=>a.own|c3 _ a b _=>a.own++b.own|c4 _ a b c _=>a.own++b.own++c.own
def top:Ch->Lv
 | one a=>a|c1 _ a=>a|c2 _ _ b=>b|c3 _ _ _ c=>c|c4 _ _ _ _ d=>d
def low:Ch->List Str
 | one _=>[]|c1 i _=>i|c2 i a _=>i++a.done|c3 i a b _=>i++a.done++b.done|c4 i a b c _=>i++a.done++b.done++c.done
def set:Ch->Lv->Ch
 | one _,x=>one x|c1 i _,x=>c1 i x|c2 i a _,x=>c2 i a x|c3 i a b _,x=>c3 i a b x|c4 i a b c _,x=>c4 i a b c x
def vis(h:Ch):List Str:=h.vis0++h.top.own
def id:Ch->Nat
 | one _=>4|c1 .. =>4|c2 .. =>9|c3 .. =>13|c4 .. =>17
def N:Ch->Nat
 | one _=>5|c1 .. =>7|c2 .. =>11|c3 .. =>15|c4 .. =>19
def heap:Ch->Heap
 | one a=>[setB a.own,setB a.done,.cells [nilP,.mp 2,.mp 3,nilM,nilS]]
 | c1 i a=>[setB a.own,setB a.done,nmB nilP 2 (.mp 6) a,rowB a.defs,setB i]
 | c2 i a b=>[setB a.own,setB a.done,nmB nilP 2 (.mp 6) a,rowB a.defs,setB i,setB b.own,setB b.done,nmB (.ref 4 0) 7 nilM b,rowB b.defs]
 | c3 i a b c=>[setB a.own,setB a.done,nmB nilP 2 (.mp 6) a,rowB a.defs,setB i,setB b.own,setB b.done,nmB (.ref 4 0) 7 nilM b,rowB b.defs,setB c.own,setB c.done,nmB (.ref 9 0) 11 nilM c,rowB c.defs]
 | c4 i a b c d=>[setB a.own,setB a.done,nmB nilP 2 (.mp 6) a,rowB a.defs,setB i,setB b.own,setB b.done,nmB (.ref 4 0) 7 nilM b,rowB b.defs,setB c.own,setB c.done,nmB (.ref 9 0) 11 nilM c,rowB c.defs,setB d.own,setB d.done,nmB (.ref 13 0) 15 nilM d,rowB d.defs]
def ok:Ch->Prop
 | one a=>a.ok|c1 i a=>zaw i/\a.ok|c2 i a b=>zaw i/\a.ok/\b.ok|c3 i a b c=>zaw i/\a.ok/\b.ok/\c.ok|c4 i a b c d=>zaw i/\a.ok/\b.ok/\c.ok/\d.ok
end Ch
def Ch.push:Ch->Lv->Ch
 | .c1 i a,x=>.c2 i a x| .c2 i a b,x=>.c3 i a b x| .c3 i a b c,x=>.c4 i a b c x|h,_=>h
theorem Ch.lt{P:Ch->Prop}(k:∀h,let g:=h;P g):∀h,P h:=k
abbrev full (p:Prog)(n q:Int)(seen:List (Int×Str×Int))(h:Ch):Heap:=lkB p n q::zb0 seen::h.heap
theorem retV{rs:List ResultVar}{env:Env}{H:Heap}{v v':SV}(hr:zcq tab env H rs=some [v'])(hv:v'=v)(hu:v.under H.length=true)(hb:zac H.length H=true):
  RetK tab rs H.length (fun r H'=>r= .ret v/\H'=H) .ret env H:=RetK.at H.length hr (by subst hv;exact Le.refl _) (qag _) rfl hu hb ⟨rfl,rfl⟩
theorem bsv{a b:Bool}(h:a=b):SV.b a=SV.b b:=by rw[h]
theorem zpC(p:Prog)(n q:Int)(seen:List (Int×Str×Int))(h:Ch)(hk:h.ok)(nm:Str)(hs:nm.length≤1000000000):
  Sound Tryz.prog 237 [.ref h.id 0,.s nm] (full p n q seen h) (fun r H'=>r= .ret (.b (decide (nm∈h.vis)))/\H'=full p n q seen h):=by
 cases h
 all_goals
  first
  | have a1:=hk.own
  | have a1:=hk.2.own
  | have a1:=hk.2.1.own;have b1:=hk.2.2.own
  | have a1:=hk.2.1.own;have b1:=hk.2.2.1.own;have c1:=hk.2.2.2.own
  | have a1:=hk.2.1.own;have b1:=hk.2.2.1.own;have c1:=hk.2.2.2.1.own;have d1:=hk.2.2.2.2.own
  simp only[full,Ch.heap,Ch.id,Ch.vis,Ch.vis0,Ch.top]
  refine so Tryz.func237 ?_
  repeat' (first|refine wkt ?_|refine wka ?_|refine wk ?_|exact wkc|intro hc|refine wk2 ?_ ?_|(apply TO.zf1;(iterate 4 exact rfl);assumption;assumption)|(apply TO.zjA;(iterate 3 exact rfl);assumption)|(apply TO.zeU zag;(iterate 5 exact rfl))|(apply TO.zeT zag;(iterate 4 exact rfl))|refine TR.loop ?_|refine Then.normal ?_|refine Then.exit ?_|refine Then.ret ?_|fail)
  all_goals exact retV rfl (bsv (by simp_all)) rfl rfl
theorem zj0(p:Prog)(n q:Int)(seen:List (Int×Str×Int))(h:Ch)(hk:h.ok)(nm:Str)(hs:nm.length≤1000000000):
  Sound Tryz.prog 238 [.ref h.id 0,.s nm] (full p n q seen h) (fun r H'=>r= .ret (.b (decide (nm∈h.low\/nm∈h.top.done)))/\H'=full p n q seen h):=by
 cases h
 all_goals
  first
  | have a1:=hk.done
  | have a1:=hk.2.done
  | have a1:=hk.2.1.done;have b1:=hk.2.2.done
  | have a1:=hk.2.1.done;have b1:=hk.2.2.1.done;have c1:=hk.2.2.2.done
  | have a1:=hk.2.1.done;have b1:=hk.2.2.1.done;have c1:=hk.2.2.2.1.done;have d1:=hk.2.2.2.2.done
  have i1:=hk.1
  simp only[full,Ch.heap,Ch.id,Ch.low,Ch.top]
  refine so Tryz.func238 ?_
  repeat' (first|refine wkt ?_|refine wka ?_|refine wk ?_|exact wkc|intro hc|refine wk2 ?_ ?_|(apply TO.zf1;(iterate 4 exact rfl);assumption;assumption)|(apply TO.zjA;(iterate 3 exact rfl);assumption)|(apply TO.zeU zag;(iterate 5 exact rfl))|(apply TO.zeT zag;(iterate 4 exact rfl))|refine TR.loop ?_|refine Then.normal ?_|refine Then.exit ?_|refine Then.ret ?_|fail)
  all_goals exact retV rfl (bsv (by simp_all)) rfl rfl
end Go.Proofs.YtpnnpgbaiobbjaaGreatDoor
namespace Go.TL
open Go
def ziN(K:TK):TK
 | .panic v,env,H=>K (.panic v) env (List.replicate H.length .dead)
 | e,env,H=>K e env H
section rules
variable {P:Program}{n:Nat}{env:Env}{H:Heap}{K:TK}
theorem Post.dead{φ:Fm}{m:M}{e:Exit}{a:Act}{w:World}(h:Post φ m n (ziN K) e a w):Post φ m n K e a w:=by
 obtain⟨m2,env2,te,rfl,s,hm,he,hd,hx,hk⟩:=h
 cases te with
 | normal=>exact⟨m2,env2,.normal,rfl,s,hm,he,hd,hx,hk⟩
 | exit i=>exact⟨m2,env2,.exit i,rfl,s,hm,he,hd,hx,hk⟩
 | ret=>exact⟨m2,env2,.ret,rfl,s,hm,he,hd,hx,hk⟩
 | panic v=>
   obtain⟨s1,hm1⟩:=zqA hm
   refine⟨⟨m2.A,m2.β,m2.H.map fun _=>.dead,m2.w⟩,env2,.panic v,rfl,s.trans s1,hm1,he.step hm s1,hd,?_,?_⟩
   ·cases e with
    | panic ch=>obtain⟨x,x1,x2⟩:=hx;exact⟨x,x1,s1.srel hm x2⟩
    | _=>simp[zbw]at hx
   ·show K (.panic v) env2 (m2.H.map fun _=>Blk.dead)
    rw[List.map_const'];exact hk
theorem TR.dead{c:Code}(h:TR P n c env H (ziN K)):TR P n c env H K:=
 fun φ m a h1 h2 h3 h4=>za9 (h φ m a h1 h2 h3 h4) fun _ _ _ hp=>hp.dead
theorem ziN.errP{tab:Tab}{rs:List ResultVar}{N:Nat}{c:Int}{v pv:SV}{H1:Heap}(hc:c≠0)(hN:N≤H.length)(hu:∀k,pv.under k=true):ziN (RetK tab rs N (Err0 c v pv H1 N)) (.panic pv) env H:=
 RetK.errP (tab:=tab) (rs:=rs) (N:=N) (env:=env) (H:=List.replicate H.length .dead) hc (by simpa using hN) (hu _) (by rw[qb2];exact zcA _ _)
end rules
end Go.TL
namespace Go.Proofs.YtpnnpgbaiobbjaaGreatDoor
open Go Go.TL
attribute [local irreducible] TR TO Then zap RetK Sound zab Kf GG za3
abbrev zcv (n q c:Int):SV:=.ifc 157 (.t (.ag [T.i n,T.i q,T.i c]))
theorem zsZ(p:Prog)(n q:Int)(seen:List (Int×Str×Int))(e:Int):Sound Tryz.prog 157 [.ref 0 0,.b true,.i e] [lkB p n q,zb0 seen] (fun r H'=>r= .ret (.tup [])/\H'=[lkB p n q,zb0 seen]):=by
 refine so Tryz.func157 ?_
 repeat' (first|refine wu ?_|exact wkc|intro hc|refine wk2 ?_ ?_|fail)
 exact RetK.zha 2 (vs:=[]) rfl (Le.refl _) rfl rfl rfl rfl rfl ⟨rfl,rfl⟩
theorem zsY(p:Prog)(n q:Int)(seen:List (Int×Str×Int))(e:Int)(he:e≠0):Sound Tryz.prog 157 [.ref 0 0,.b false,.i e] [lkB p n q,zb0 seen] (Err e (.tup []) (zcv n q e) [lkB p n q,zb0 seen]):=by
 refine Sound.err rfl (fun _=>rfl) ?_
 refine so Tryz.func157 ?_
 repeat' (first|refine wu ?_|exact wkc|intro hc|refine wk2 ?_ ?_|(apply TO.makeInterface;exact rfl;kernel_rfl;exact rfl)|(apply TO.panic;exact rfl)|fail)
 exact RetK.errP he rfl rfl rfl
theorem Ch.len(h:Ch)(p:Prog)(n q:Int)(seen:List (Int×Str×Int)):(full p n q seen h).length=h.N:=by cases h <;> rfl
theorem Ch.under(h:Ch)(p:Prog)(n q:Int)(seen:List (Int×Str×Int)):zac h.N (full p n q seen h)=true:=by cases h <;> rfl
theorem Ch.tk(h:Ch)(p:Prog)(n q:Int)(seen:List (Int×Str×Int)):(full p n q seen h).take h.N=full p n q seen h:=qaX (by rw[Ch.len];exact qag _)
theorem Ch.tkl(h:Ch)(p:Prog)(n q:Int)(seen:List (Int×Str×Int)):(full p n q seen h).take (full p n q seen h).length=full p n q seen h:=qaX (qag _)
theorem Ch.und(h:Ch)(p:Prog)(n q:Int)(seen:List (Int×Str×Int)):zac (full p n q seen h).length (full p n q seen h)=true:=by rw[Ch.len];exact Ch.under h p n q seen
theorem Ch.ble(h:Ch)(p:Prog)(n q:Int)(seen:List (Int×Str×Int)):Nat.ble (full p n q seen h).length (full p n q seen h).length=true:=by simp
section
variable {n:Nat}{env:Env}{K:TK}{all:Array Oper}{rest:List Oper}{d:Nat}{ty:TypeId}{pos:String}{aft:Array Edge}{p:Prog}{a q e:Int}{seen:List (Int×Str×Int)}{H Hr:Heap}{args:Array Operand}{ts:Array TypeId}
theorem TO.zvK(hd:Nat.ble (d+1) n=true)(ha:env.vals args.toList=some [.ref 0 0,.b true,.i e])(h1:H=lkB p a q::zb0 seen::Hr)(k:TO false Tryz.prog n all rest ((d,.tup [])::env) H K):
  TO false Tryz.prog n all (⟨some d,.call { callee:=.value (.func 157),args:=args,argTypes:=ts },ty,pos,aft,none⟩::rest) env H K:=by
 subst h1
 exact TO.zaD 2 (zsZ p a q seen e) hd rfl ha ⟨Le.refl _,Le.refl _,Le.refl _,trivial⟩ (by simp) rfl rfl rfl rfl rfl rfl (by simp[zbc]) k
theorem TO.ztE(hd:Nat.ble (d+1) n=true)(ha:env.vals args.toList=some [.ref 0 0,.b false,.i e])(h1:H=lkB p a q::zb0 seen::Hr)(he:e≠0)(k:K (.panic (zcv a q e)) env (.dead:: .dead::Hr)):
  TO false Tryz.prog n all (⟨some d,.call { callee:=.value (.func 157),args:=args,argTypes:=ts },ty,pos,aft,none⟩::rest) env H K:=by
 subst h1
 exact TO.zkW 2 (zsY p a q seen e he) hd rfl ha ⟨Le.refl _,Le.refl _,Le.refl _,trivial⟩ (by simp) rfl rfl rfl rfl rfl rfl rfl (by simp[zbc];rfl) (fun h=>absurd h he) (fun _=>k)
theorem TO.zoa(N:Nat){Hc:Heap}{cargs:List SV}{b:Bool}{f:Operand}{fid:FuncId}{caps:List SV}{vs:List SV}
  (hs:Sound Tryz.prog fid cargs Hc fun r H'=>r= .ret (.b b)/\H'=Hc)(hd:Nat.ble (d+1) n=true)(hf:env.val f=some (.fn fid caps))(ha:env.vals args.toList=some vs)(hl:Les (vs++caps) cargs)
  (hN:N≤H.length)(hc:H.take N=Hc)(hu:unders N cargs=true)(hb:zac N Hc=true)
  (k1:b=true->TO false Tryz.prog n all rest ((d,.b true)::env) H K)(k2:b=false->TO false Tryz.prog n all rest ((d,.b false)::env) H K):
  TO false Tryz.prog n all (⟨some d,.call { callee:=.value f,args:=args,argTypes:=ts },ty,pos,aft,none⟩::rest) env H K:=by
 have hl1:Hc.length=N:=by rw[<-hc];simp;omega
 refine TO.zaD N hs hd hf ha hl (by simpa using hN) hc hu hb rfl hl1 hb (H':=H) (by rw[<-hc,qaW,zbc]) ?_
 cases b
 ·exact k2 rfl
 ·exact k1 rfl
theorem TO.sees{h:Ch}{nm:Str}(hk:h.ok)(hd:Nat.ble (d+1) n=true)(ha:env.vals args.toList=some [.ref h.id 0,.s nm])(hH:H.take h.N=full p a q seen h)(hs:nm.length≤1000000000)
  (k1:nm∈h.vis->TO false Tryz.prog n all rest ((d,.b true)::env) H K)(k2:nm ∉ h.vis->TO false Tryz.prog n all rest ((d,.b false)::env) H K):
  TO false Tryz.prog n all (⟨some d,.call { callee:=.value (.func 237),args:=args,argTypes:=ts },ty,pos,aft,none⟩::rest) env H K:=by
 have hN:h.N≤H.length:=by have:=congrArg List.length hH;rw[Ch.len]at this;simp at this;omega
 refine TO.zoa h.N (zpC p a q seen h hk nm hs) hd rfl ha ⟨Le.refl _,Le.refl _,trivial⟩ hN hH ?_ (Ch.under h p a q seen) (fun hb=>k1 (by simpa using hb)) (fun hb=>k2 (by simpa using hb))
 cases h <;> rfl
theorem TO.defined{h:Ch}{nm:Str}(hk:h.ok)(hd:Nat.ble (d+1) n=true)(ha:env.vals args.toList=some [.ref h.id 0,.s nm])(hH:H.take h.N=full p a q seen h)(hs:nm.length≤1000000000)
  (k1:(nm∈h.low\/nm∈h.top.done)->TO false Tryz.prog n all rest ((d,.b true)::env) H K)(k2:¬(nm∈h.low\/nm∈h.top.done)->TO false Tryz.prog n all rest ((d,.b false)::env) H K):
  TO false Tryz.prog n all (⟨some d,.call { callee:=.value (.func 238),args:=args,argTypes:=ts },ty,pos,aft,none⟩::rest) env H K:=by
 have hN:h.N≤H.length:=by have:=congrArg List.length hH;rw[Ch.len]at this;simp at this;omega
 refine TO.zoa h.N (zj0 p a q seen h hk nm hs) hd rfl ha ⟨Le.refl _,Le.refl _,trivial⟩ hN hH ?_ (Ch.under h p a q seen) (fun hb=>k1 (by simpa using hb)) (fun hb=>k2 (by simpa using hb))
 cases h <;> rfl
end
theorem wms{G Q:Prop}(k:Q)(h:Hold Q->G:=by
  intro k
  first
  | (apply Go.Proofs.YtpnnpgbaiobbjaaGreatDoor.TO.zvK;(iterate 3 exact rfl);exact k.p)
  | (apply Go.Proofs.YtpnnpgbaiobbjaaGreatDoor.TO.ztE;(iterate 3 exact rfl);decide;exact k.p)
  | (apply Go.Proofs.YtpnnpgbaiobbjaaGreatDoor.TO.ztE;(iterate 3 exact rfl);assumption;exact k.p)):G:=h ⟨k⟩
abbrev SS (f:FuncId)(args:List SV)(p:Prog)(n q:Int)(seen:List (Int×Str×Int))(h h':Ch)(c:Int):Prop:=Sound Tryz.prog f (.ref 0 0::args) (full p n q seen h) (Err c (.tup []) (zcv n q c) (full p n q seen h'))
theorem retS{rs:List ResultVar}{env:Env}{H H1:Heap}{n q c c':Int}{N:Nat}{v:SV}(h0:c'≠0)(hc:c'=c)(hN:N≤H.length):
  ziN (RetK tab rs N (Err0 c v (zcv n q c) H1 N)) (.panic (zcv n q c')) env H:=by
 subst hc;exact ziN.errP h0 hN (fun _=>rfl)
theorem zlT{env:Env}{H H1:Heap}{n q c:Int}{N:Nat}(hc:c=0)(hN:Nat.ble N H1.length=true)(hk:Nat.ble H1.length H.length=true)(ht:H.take H1.length=H1)(hb:zac H1.length H1=true):
  ziN (RetK tab [] N (Err0 c (.tup []) (zcv n q c) H1 N)) .normal env H:=RetK.errN (vs:=[]) hc rfl (Le.refl _) hN hk rfl ht hb
def zlU(vis:List Str)(l:List Decl):Int:=zaf (fun d=>zaf (fun o:OnC=>if o.name∈vis then 0 else 6) d.clock) l
theorem zbd{l:List Decl}{d:Decl}(h:d∈l):d.name.length<(zad l).w/\(T.sl 3 (d.clock.map onT)).w<(zad l).w:=by
 have:=zau (f:=zaa) (sz:=3) h
 rw[show zaa d= .ag (zeZ d) from rfl,w_ag]at this
 simp only[zeZ,qaj,qaw,qan,qaG,w_s]at this
 have h2:(zad l).w=(T.sl 3 (l.map zaa)).w:=rfl
 omega
theorem zuI{l:List OnC}{o:OnC}(h:o∈l):o.name.length<(T.sl 3 (l.map onT)).w:=by
 have:=zau (f:=onT) (sz:=3) h
 rw[onT,w_ag]at this
 simp only[qaj,qaw,qan,qaG,w_s]at this
 omega
theorem ziw(p:Prog)(n q:Int)(seen:List (Int×Str×Int))(h:Ch)(hk:h.ok)(l:List Decl)(hw:(zad l).w≤1000000000):SS 160 [.ref h.id 0,.t (zad l)] p n q seen h h (zlU h.vis l):=by
 have hml:(l.map zaa).length=l.length:=qaa _
 have hlb:l.length≤1000000000:=qaC (qbr (zai zaa 3 l)) hw
 unfold zlU
 refine Sound.err rfl (fun _=>rfl) ?_
 refine so Tryz.func160 ?_
 refine TR.dead ?_
 repeat' (first|refine wu ?_|exact wkc|intro hc|refine wk2 ?_ ?_|fail)
 refine TR.zal l.length (fun k=>zaf (fun d=>zaf (fun o:OnC=>if o.name∈h.vis then 0 else 6) d.clock) (l.take k)=0) (fun k=>[(0,.ref 0 0),(1,.ref h.id 0),(10,.t (zad l)),(11,.i (l.map zaa).length),(12,.i k)]) (fun _=>full p n q seen h) rfl (fun k hlt ha=>?_) (fun ha=>?_)
 ·have hx:=zcY hlt
  have g1:=zaI (f:=fun d=>zaf (fun o:OnC=>if o.name∈h.vis then 0 else 6) d.clock) hlt ha
  have g2:=zas (f:=fun d=>zaf (fun o:OnC=>if o.name∈h.vis then 0 else 6) d.clock) hlt ha
  have hwx:=(zbd (qad hlt)).2
  generalize l[k]=x at*
  have hlc:=zai onT 3 x.clock
  have hmo:(x.clock.map onT).length=x.clock.length:=qaa _
  unfold zeZ at hx
  repeat' (first|refine wu ?_|exact wkc|intro hc|refine wk2 ?_ ?_|fail)
  refine TR.zal x.clock.length (fun j=>zaf (fun o:OnC=>if o.name∈h.vis then 0 else 6) (x.clock.take j)=0) (fun j=>[(0,.ref 0 0),(1,.ref h.id 0),(10,.t (zad l)),(11,.i (l.map zaa).length),(12,.i k),(17,.t (.sl 3 (x.clock.map onT))),(18,.i (x.clock.map onT).length),(19,.i j)]) (fun _=>full p n q seen h) rfl (fun j hlt2 ha2=>?_) (fun ha2=>?_)
  ·have hx2:=zvj hlt2
   have f1:=zaI (f:=fun o:OnC=>if o.name∈h.vis then 0 else 6) hlt2 ha2
   have f2:=zas (f:=fun o:OnC=>if o.name∈h.vis then 0 else 6) hlt2 ha2
   have hno:x.clock[j].name.length≤1000000000:=by have:=zuI (qad hlt2);omega
   generalize x.clock[j]=o at*
   repeat' (first|refine wkt ?_|refine wka ?_|refine wkD ?_|refine wk ?_|exact wkc|intro hc|refine wk2 ?_ ?_|(apply TO.zf1;(iterate 4 exact rfl);assumption;assumption)|(apply TO.zjA;(iterate 3 exact rfl);assumption)|(apply TO.zee;(iterate 4 exact rfl);assumption;assumption;exact rfl)|refine wms ?_|(apply TO.sees hk;exact rfl;exact rfl;(first|exact rfl|exact Ch.tk _ _ _ _ _);assumption)|(apply TO.defined hk;exact rfl;exact rfl;(first|exact rfl|exact Ch.tk _ _ _ _ _);assumption)|fail)
   ·exact zab.zaz hlt2 (f2 (by rw[if_pos hc]))
   ·((repeat' (first|refine zab.panic ?_|refine wk ?_|fail));apply retS;(first|assumption|decide);(clear hx;first|grind|grind [orE]);(first|exact leB|exact Nat.le_refl _|(simp[Ch.len];done)|(simp[Ch.len];omega)))
  ·have e1:=zaK ha2
   refine wk ?_
   repeat' (first|refine wu ?_|exact wkc|intro hc|refine wk2 ?_ ?_|fail)
   exact zab.zaz hlt (g2 e1)
 ·exact zwby
theorem zam{α β:Type}(f:β->α->β)(a:β){l:List α}{j:Nat}(h:j<l.length):(l.take (j+1)).foldl f a=f ((l.take j).foldl f a) l[j]:=by rw[zb8 h,qa5];rfl
theorem zaJ{α:Type}{f:List Str->α->List Str}:∀ {l:List α} {a:List Str},zaw a->(∀a x,x∈l->zaw a->zaw (f a x))->zaw (l.foldl f a)
 | [],_,h,_=>h
 | x::l,a,h,hf=>zaJ (l:=l) (hf a x (qas ..) h) fun a y hy=>hf a y (qar _ hy)
theorem za7{α:Type}{f:List Str->α->List Str}{l:List α}{a:List Str}(h:zaw a)(hf:∀a x,x∈l->zaw a->zaw (f a x))(j:Nat):zaw ((l.take j).foldl f a):=zaJ h fun a x hx=>hf a x (qaR hx)
abbrev zdc (s:Str):Prop:=s.length≤1000000000
structure zts (d:Decl):Prop where
 name:zdc d.name
 ck:∀o∈d.clock,zdc o.name
 few:d.clock.length≤100000000
theorem zbu{l:List Decl}(h:(zad l).w≤100000000):∀d∈l,zts d:=fun d hd=>by
 have h1:=zbd hd
 refine⟨by show _≤_;omega,fun o ho=>?_,?_⟩
 ·have h2:=zau (f:=onT) (sz:=3) ho
  rw[show onT o= .ag [.s o.name,T.n o.t,T.n o.tag] from rfl,w_ag]at h2
  simp only[qaj,qaw,qan,qaG,w_s]at h2
  show _≤_
  omega
 ·have h2:=zai onT 3 d.clock
  omega
theorem zcp{a:List Str}{ds:List Decl}(h:zaw a)(hd:∀d∈ds,zts d):zaw (zaE a ds):=zaJ h fun a d hh ha=>zaJ (ha.ins (hd d hh).name) fun a o ho ha=>ha.ins ((hd d hh).ck o ho)
theorem zvQ{a:List Str}{qs:List Equ}(h:zaw a)(hq:∀q∈qs,∀s∈q.left,zdc s):zaw (lhsL a qs):=zaJ h fun a q hh ha=>zaJ ha fun a s hs ha=>ha.ins (hq q hh s hs)
def zkL(e:Ex):Prop:=∀x∈flat e,zdc x.name
theorem za1{e:Ex}(h:(exT e).w≤1000000000):zkL e:=fun x hx=>qaC (flat_nameF _ e (qag _) x hx) h
where
 flat_nameF:∀(m:Nat) (e:Ex),wEx e≤m->∀x∈flat e,x.name.length≤(exT e).w
 | 0,e,h=>by have:=zcQ e;omega
 | m+1,e,h=>by
   intro x hx
   have he:(exT e).w=(T.ag (exC e)).w:=by rw[zay]
   have h1:e.name.length+(T.sl 6 (e.args.map exT)).w≤(exT e).w:=by
    exact zwel
   rw[zcM]at hx
   rcases qbd.1 hx with rfl|hx
   ·omega
   ·unfold flats at hx
    obtain⟨l,hl,hxl⟩:=qcy.1 hx
    obtain⟨y,hy,rfl⟩:=qa2.1 hl
    have:=flat_nameF m y (by have:=zb9 hy;omega) x hxl
    have:=zau (f:=exT) (sz:=6) hy
    omega
theorem ok_one{a:List Str}{x:Ex}(h:zaw a)(hx:zdc x.name):zaw (oneL a x):=by
 unfold oneL
 split
 ·exact h.ins hx
 ·exact h
theorem zgr{a:List Str}{e:Ex}(h:zaw a)(he:zkL e):zaw (zbW a e):=zaJ h fun a x hx ha=>ok_one ha (he x hx)
end Go.Proofs.YtpnnpgbaiobbjaaGreatDoor
