import Derived.Sort.QuietThIn
import Derived.Test.YtddaclniamlmbaaGreatDoorPk0
set_option linter.unusedSimpArgs false
set_option linter.unusedVariables false
namespace Go.TL
open Go
abbrev Str:=List UInt8
abbrev str (l:Str):Value:=.string ⟨l.toArray⟩
abbrev i64 (n:Int):Value:=.int .i64 n
abbrev SV.i (n:Int):SV:=.t (.v (.int .i64 n))
abbrev SV.b (x:Bool):SV:=.t (.v (.bool x))
abbrev SV.s (l:Str):SV:=.t (.v (str l))
abbrev T.i (n:Int):T:=.v (.int .i64 n)
abbrev T.b (x:Bool):T:=.v (.bool x)
abbrev T.s (l:Str):T:=.v (str l)
inductive TK' where
 | scalar
 | bool
 | int (k:IntKind)
 | str
 | slice (e:TypeId)
 | struct (fs:List (Nat×TypeId))
 | ptr (e:TypeId)
 | map (k e:TypeId)
 | array (n:Nat) (e:TypeId)
 | iface
structure TyI where
 k:TK'
 size:Nat
 bytes:Nat
 zero:List T
inductive Tab where
 | leaf
 | node (l:Tab) (k:Nat) (v:TyI) (r:Tab)
def Tab.get:Tab->TypeId->Option TyI
 | .leaf,_=>none
 | .node l k v r,i=>bif Nat.beq i k then some v else bif Nat.blt i k then Tab.get l i else Tab.get r i
def Tab.every(f:TypeId->TyI->Bool):Tab->Bool
 | .leaf=>true
 | .node l k v r=>f k v && (Tab.every f l && Tab.every f r)
def TK'.fits:TK'->TypeDesc->Bool
 | .scalar,.bool| .scalar,.int _| .str,.string| .bool,.bool=>true
 | .int k,.int l=>k == l
 | .slice e,.slice f=>e == f
 | .struct fs,.struct gs=>fs == gs.toList.map fun f=>(f.offset,f.type)
 | .ptr e,.pointer f=>e == f
 | .map k e,.map l f=>k == l && e == f
 | .array n e,.array m f=>n == m && e == f
 | .iface,.interface _=>true
 | .scalar,.func .. =>true
 | _,_=>false
def T.fits:T->Value->Bool
 | .v (.bool a),.bool b=>a == b
 | .v (.int k a),.int l b=>k == l && a == b
 | .v (.string a),.string b=>a.data == b.data
 | .v (.pointer none),.pointer none=>true
 | .v (.map none),.map none=>true
 | .v .nilFunc,.nilFunc=>true
 | .v .nilIface,.nilIface=>true
 | .sl _ [],.slice none 0 0=>true
 | .v (.slice none 0 0),.slice none 0 0=>true
 | _,_=>false
def fitsAll:List T->List Value->Bool
 | [],[]=>true
 | t::ts,v::vs=>t.fits v && fitsAll ts vs
 | _,_=>false
def TK'.agg:TK'->Bool
 | .struct _| .array _ _=>true
 | _=>false
def tabFit(P:Program)(t:TypeId)(i:TyI):Bool:=
 match P.underlying t,P.info? t with
 | some d,some ti=>i.k.fits d && ti.size == i.size && (ti.bytes == i.bytes && i.zero.length == i.size) && (match ti.zero with
   | some z=>fitsAll i.zero z.cells.toList && (match i.k,z with| .struct _,.agg _| .array _ _,.agg _=>true| .struct _,_| .array _ _,_=>false|_,.agg _=>false|_,.tuple _=>false|_,_=>true)
   | none=>false)
 | _,_=>false
def tabCheck(P:Program)(tab:Tab):Bool:=tab.every (tabFit P)
structure Fit (P:Program) (t:TypeId) (i:TyI):Prop where
 len:i.zero.length=i.size
 ex:∃d ti z,P.underlying t=some d/\P.info? t=some ti/\i.k.fits d=true/\ti.size=i.size/\ti.bytes=i.bytes/\ti.zero=some z/\fitsAll i.zero z.cells.toList=true/\
  (i.k.agg=true->∃cs,z= .agg cs)/\(i.k.agg=false->z.oneCell'=true)
def TabOk(P:Program)(tab:Tab):Prop:=∀t i,tab.get t=some i->Fit P t i
theorem Tab.get_every{f:TypeId->TyI->Bool}:∀ {tab:Tab} {t:TypeId} {i:TyI},tab.every f=true->tab.get t=some i->f t i=true
 | .leaf,_,_,_,h=>by simp[Tab.get]at h
 | .node l k v r,t,i,he,h=>by
   simp only[Tab.every,Bool.and_eq_true]at he
   simp only[Tab.get]at h
   cases hb:Nat.beq t k with
   | true=>
     rw[hb]at h
     simp only[cond_true,Option.some.injEq]at h
     have:=Nat.eq_of_beq_eq_true hb
     subst this;subst h;exact he.1
   | false=>
     rw[hb]at h
     cases hl:Nat.blt t k with
     | true=>rw[hl]at h;exact Tab.get_every he.2.1 h
     | false=>rw[hl]at h;exact Tab.get_every he.2.2 h
theorem tabOk_of_check{P:Program}{tab:Tab}(h:tabCheck P tab=true):TabOk P tab:=by
 intro t i hi
 have:=Tab.get_every h hi
 unfold tabFit at this
 split at this
 ·rename_i d ti h1 h2
  simp only[Bool.and_eq_true,beq_iff_eq]at this
  obtain⟨⟨⟨h3,h4⟩,h5,h5'⟩,h6⟩:=this
  split at h6
  ·rename_i z hz
   simp only[Bool.and_eq_true]at h6
   obtain⟨h7,h8⟩:=h6
   refine⟨h5',d,ti,z,h1,h2,h3,h4,h5,hz,h7,fun ha=>?_,fun ha=>?_⟩
   ·cases hk:i.k <;> simp[hk,TK'.agg]at ha <;> (cases z <;> simp[hk]at h8 <;> exact⟨_,rfl⟩)
   ·cases hk:i.k <;> simp[hk,TK'.agg]at ha <;> (cases z <;> simp[hk,Value.oneCell']at h8⊢)
  ·cases h6
 ·cases this
section rules
variable {P:Program}{n:Nat}{env:Env}{H:Heap}{K:TK}{all:Array Oper}{rest:List Oper}{q:Bool}
theorem TR.region{id:Nat}{l:List Oper}(h:TO false P n l.toArray l env H K):TR P n (.region id l.toArray false) env H K:=
 fun φ m a h1 h2 h3 h4=>wpr_of_in (wpIn_region_lit (h φ m a h1 h2 h3 h4))
theorem wpQuiet_mono{C:World->Prop}{Q Q':Act->Prop}(hq:∀a,Q a->Q' a):∀(l:List Oper) (a:Act),wpQuiet P all C Q l a->wpQuiet P all C Q' l a
 | [],a,h=>hq a h
 | o::r,a,h=>by
   unfold wpQuiet at h⊢
   split
   ·rename_i hw;rw[if_pos hw]at h;exact Oper.quiet_mono (fun a' h'=>wpQuiet_mono hq r a' h') h
   ·rename_i hw;rw[if_neg hw]at h;exact wpQuiet_mono hq r _ h
theorem shape_lt{w:World}{b:Nat}{s:TypeId×Nat}(h:w.shape? b=some s):b<w.heap.size:=by
 unfold World.shape? at h
 cases hq:w.heap[b]? with
 | none=>rw[hq]at h;cases h
 | some o=>exact(Array.getElem?_eq_some_iff.1 hq).1
theorem shape_of_block{w w':World}{b:Nat}(h:w'.heap[b]?=w.heap[b]?):w'.shape? b=w.shape? b:=by simp[World.shape?,h]
theorem shape_keep{w w':World}(k:Keeps w w'){b:Nat}{s:TypeId×Nat}(h:w.shape? b=some s):w'.shape? b=some s:=by
 rw[shape_of_block (k.block b (shape_lt h))];exact h
theorem calls_fr{r:Option Nat}{f:FuncId}{args:Array Value}{w:World}{R:Ending->World->Prop}(h:Calls P f args w R):CallsIn (Fr r) 0 P f args w R:=callsIn_wide.2 h
theorem calls_of_fr{r:Option Nat}{f:FuncId}{args:Array Value}{w:World}{R:Ending->World->Prop}(h:CallsIn (Fr r) 0 P f args w R):Calls P f args w R:=callsIn_wide.1 h
def Op.plain:Op->Bool
 | .defer _=>false
 | _=>true
theorem Op.plain_ne{o:Op}(h:Op.plain o=true):∀c,o≠ .defer c:=by
 intro c e;subst e;simp[Op.plain]at h
theorem semAt_val{r:Option Nat}{ρ:Operand->Value}{o:Oper}{w:World}{x:Next}{w':World}(h:(execOp ρ o).run P w= .ok x w')(hx:∀d,x≠ .defer d):(o.semAt r ρ).run P w= .ok x w':=by
 by_cases hd:∃c,o.op= .defer c
 ·obtain⟨c,hc⟩:=hd
  exfalso
  unfold execOp at h
  rw[hc]at h
  simp only[Sem.run_bind]at h
  cases hr:(resolve ρ c o.type).run P w with
  | ok d w1=>rw[hr]at h;simp at h;exact hx d h.1.symm
  | halt e w1=>rw[hr]at h;simp at h
 ·rw[Oper.semAt_eq _ _ _ (fun c hc=>hd ⟨c,hc⟩)];exact h
theorem semAt_halt{r:Option Nat}{ρ:Operand->Value}{o:Oper}{w:World}(h:Op.plain o.op=true):(o.semAt r ρ).run P w=(execOp ρ o).run P w:=by
 rw[Oper.semAt_eq _ _ _ (Op.plain_ne h)]
theorem quiet_in{r:Option Nat}{C:World->Prop}{Q:Act->Prop}:∀(l:List Oper) (a:Act),wpQuiet P all C Q l a->wpQuietIn (Fr r) 0 P all C Q l a
 | [],a,h=>h
 | o::l,a,h=>by
   unfold wpQuiet at h
   unfold wpQuietIn
   refine⟨fun _ _ _ _=>trivial,?_⟩
   split
   ·rename_i hw
    rw[if_pos hw]at h
    obtain⟨v,h1,h2⟩:=h
    refine⟨v,fun w hw=>?_,quiet_in l _ h2⟩
    have h3:=h1 w hw
    unfold Oper.quietAt at h3
    unfold Oper.quietAtIn
    generalize (execOp a.eval o).run P w=z at h3⊢
    cases z with
    | ok x w'=>
      cases x <;> simp only[Oper.quietUpon]at h3 <;> simp only[Oper.quietUponIn] <;> first
       | exact h3
       | exact⟨h3.1,fun h=>(by simp[Fence.wide]at h),calls_fr h3.2⟩
    | halt x w'=>simp only[Oper.quietUpon]at h3
   ·rename_i hw
    rw[if_neg hw]at h
    exact quiet_in l _ h
theorem op_of_quiet{r:Option Nat}{C:World->Prop}{o:Oper}{a:Act}{K:Act->Prop}{K':Act->World->Prop}{Q':Exit->Act->World->Prop}{w:World}(hp:Op.plain o.op=true)(hw:C w)(h:∀a w',C w'->K a->K' a w')
  (hh:o.quietIn (Fr r) 0 P a C K):o.wpIn (Fr r) 0 P a w K' Q':=by
 obtain⟨v,h1,h2⟩:=hh
 have h3:=h1 w hw
 unfold Oper.quietAtIn at h3
 unfold Oper.wpIn
 refine⟨fun _ _=>trivial,?_⟩
 rw[semAt_halt hp]
 generalize (execOp a.eval o).run P w=z at h3⊢
 cases z with
 | ok x w'=>
   cases x <;> simp only[Oper.quietUponIn]at h3 <;> simp only[Oper.uponIn]
   case value u=>
    obtain⟨rfl,rfl⟩:=h3
    exact h _ _ hw h2
   case skip=>
    obtain⟨rfl,rfl⟩:=h3
    exact h _ _ hw h2
   case enter f args=>
    obtain⟨rfl,hd,hc⟩:=h3
    refine⟨hd,calls_fr (Calls.mono (calls_of_fr hc) ?_)⟩
    rintro e w2 ⟨rfl,hw2⟩
    exact h _ _ hw2 h2
 | halt x w'=>simp only[Oper.quietUponIn]at h3
theorem any_of_quiet{r:Option Nat}{C:World->Prop}{md:Region.Mode}{Q:Act->Prop}{Q':Exit->Act->World->Prop}(hp:∀(i:Nat) o,all[i]?=some o->Op.plain o.op=true)(hQ:∀a w,C w->Q a->Q' .normal a w):∀(fuel:Nat) (listed:Array Bool) (a:Act) (w:World),C w->
  wpAnyQIn (Fr r) 0 P md all C Q fuel listed a->wpAnyIn (Fr r) 0 P md all Q' fuel listed a w
 | 0,_,_,_,hw,h=>⟨h.1,hQ _ _ hw h.2⟩
 | fuel+1,listed,a,w,hw,h=>⟨fun h0=>hQ _ _ hw (h.1 h0),fun i hi=>by
    have h2:=h.2 i hi
    unfold qOpIn at h2
    unfold wpOpIn
    cases ho:all[i]? with
    | none=>simp only[ho]at h2⊢;exact any_of_quiet hp hQ fuel _ _ _ hw h2
    | some o=>
      simp only[ho]at h2⊢
      obtain⟨_,h2⟩:=h2
      split
      ·rename_i hwt
       rw[if_pos hwt]at h2
       exact op_of_quiet (hp i o ho) hw (fun a' w' hw' hk=>any_of_quiet hp hQ fuel _ a' w' hw' hk) h2
      ·rename_i hwt
       rw[if_neg hwt]at h2
       exact⟨fun _ _=>trivial,any_of_quiet hp hQ fuel _ _ _ hw h2⟩⟩
theorem region_quiet{r:Option Nat}{C:World->Prop}{id:Nat}{l:List Oper}{Q:Exit->Act->World->Prop}{a:Act}{w:World}(hm:P.follows .mixedOrders=true)(hB:Region.lexB .any l.toArray=true)(hp:l.all (fun o=>Op.plain o.op)=true)
  (hC:C { w with drawn:=w.drawn+1 })(h:wpQuiet P l.toArray C (fun a'=>∀w',C w'->Q .normal a' w') l a):(Code.region id l.toArray true).wpIn (Fr r) 0 P Q a w:=by
 simp only[Region.lexB,Bool.and_eq_true]at hB
 refine wpIn_region_any hm (any_of_quiet (Q:=fun a'=>∀w',C w'->Q .normal a' w') (fun i o ho=>?_) (fun _ w' hw' h=>h w' hw') _ _ _ _ hC ?_)
 ·exact List.all_eq_true.1 hp o (List.mem_of_getElem? (by simpa using ho))
 ·have:=wpAnyQIn_lex (F:=Fr r) (n:=0) (P:=P) (C:=C) (md:=.any) (Q:=fun a'=>∀w',C w'->Q .normal a' w') hB.1 l 0 (Array.replicate l.toArray.size false) a (by simp) (by simpa using hB.2) (quiet_in l a h)
  simpa using this
theorem noOwn{m:M}(hm:HRel m){k:Nat}{x:Option (List Deferred)}(h:m.w.heap[k]?=some (.deferred x))(o:Nat):¬Own m k o:=by
 rintro⟨i,p,kk,h1,h2,h3,rfl,h5,h6⟩
 have hb:=hm.blk i p kk h1 h2
 have hn:∀o,m.w.cell? ⟨p.b,o,none⟩=none:=fun o=>by simp[World.cell?,h]
 cases kk with
 | cells cs=>have:=(hb.2.1 o h5 h6).1;rw[hn]at this;cases this
 | tail n=>have:=(hb o h5 h6).1;rw[hn]at this;cases this
 | row e cs=>have:=(hb.2.1 o h5 h6).1;rw[hn]at this;cases this
 | map kt vt es=>obtain⟨_,_,a,c,g,_⟩:=hb;rw[h]at g;cases g
 | loop fn st pe n env ps aas bo=>obtain⟨_,_,L,g,_⟩:=hb;rw[h]at g;cases g
 | dead=>simp[Blk.live]at h3
theorem DefOk.step{φ:Fm}{m m':M}(hm:HRel m)(s:Step m m'){l:List Deferred}(h:DefOk φ m.w l):DefOk φ m'.w l:=by
 obtain⟨⟨ks,h1,h2,h4,h3⟩,h5,h6⟩:=h
 refine⟨⟨ks,h1,h2,h4,fun k hk=>?_⟩,Nat.le_trans h5 s.size,fun l hl=>let ⟨L,hL⟩:=h6 l hl;s.loop l L hL⟩
 obtain⟨g2,g3⟩:=h3 k hk
 exact⟨g2,by rw[s.block k (Array.getElem?_eq_some_iff.1 g3).1 (noOwn hm g3)];exact g3⟩
theorem TR.regionQ{id:Nat}{l:List Oper}(hm:P.follows .mixedOrders=true)(hB:Region.lexB .any l.toArray=true)(hp:l.all (fun o=>Op.plain o.op)=true)(h:TO true P n l.toArray l env H K):TR P n (.region id l.toArray true) env H K:=by
 intro φ m a h1 h2 h3 h4
 have hq:=h φ m a h1 h2 h3 h4
 have keepStep:∀w',Keeps m.w w'->Step m ⟨m.A,m.β,m.H,w'⟩/\HRel ⟨m.A,m.β,m.H,w'⟩:=by
  intro w' k
  have hc:∀b o,b<m.w.heap.size->w'.cell? ⟨b,o,none⟩=m.w.cell? ⟨b,o,none⟩:=fun b o hb=>by simp[World.cell?,k.block b hb]
  have hf:∀b o,b<m.w.heap.size->w'.frozen? ⟨b,o,none⟩=m.w.frozen? ⟨b,o,none⟩:=fun b o hb=>by simp[World.frozen?,k.block b hb]
  have s:Step m ⟨m.A,m.β,m.H,w'⟩:=⟨k.os,k.tape,k.output,k.size,fun _ _ h=>h,fun _ _ h=>.inl h,fun _ _ h=>.inl h,fun b o hb _=>hc b o hb,fun b o hb _ _=>hf b o hb,fun b hb _=>k.block b hb,fun b s hs=>shape_keep k hs,fun b L hL=>⟨L,by show w'.heap[b]?=_;rw[k.block b (Array.getElem?_eq_some_iff.1 hL).1];exact hL⟩,fun b o hb h=>by rw[hc b o hb];exact h,(Step.refl m).ids⟩
  refine⟨s,h2.len,fun i p kk g1 g2=>?_,h2.apart,h2.still,fun b o h=>Nat.lt_of_lt_of_le (h2.inA b o h) k.size,fun i p kk g1 g2 g3 g4=>Nat.lt_of_lt_of_le (h2.inO i p kk g1 g2 g3 g4) k.size,s.glob h2⟩
  have hb:=h2.blk i p kk g1 g2
  cases kk with
  | cells cs=>
    obtain⟨b1,b2,b3⟩:=hb
    refine⟨b1,fun o ho ho'=>?_,fun j c hc'=>?_⟩
    ·have:=b2 o ho ho'
     have hlt:=h2.inO i p _ g1 g2 rfl (by omega)
     unfold Free at this⊢
     rw[hc _ _ hlt,hf _ _ hlt];exact this
    ·obtain⟨y,y1,y0,y2⟩:=b3 j c hc'
     have hj:=(List.getElem?_eq_some_iff.1 hc').1
     have hlt:=h2.inO i p _ g1 g2 rfl (by omega)
     exact⟨y,by rw[hc _ _ hlt];exact y1,y0,s.srel h2 y2⟩
  | tail t=>
    intro o ho ho'
    have:=hb o ho ho'
    have hlt:=h2.inO i p _ g1 g2 rfl (by omega)
    unfold Free at this⊢
    rw[hc _ _ hlt,hf _ _ hlt];exact this
  | row e cs=>
    obtain⟨b1,b2,b3⟩:=hb
    refine⟨⟨b1.1,b1.2.1,fun h=>shape_keep k (b1.2.2 h)⟩,fun o ho ho'=>?_,fun j c hc'=>?_⟩
    ·have:=b2 o ho ho'
     have hlt:=h2.inO i p _ g1 g2 rfl (by omega)
     unfold Free at this⊢
     rw[hc _ _ hlt,hf _ _ hlt];exact this
    ·obtain⟨y,y1,y0,y2⟩:=b3 j c hc'
     have hj:=(List.getElem?_eq_some_iff.1 hc').1
     have hlt:=h2.inO i p _ g1 g2 rfl (by omega)
     exact⟨y,by rw[hc _ _ hlt];exact y1,y0,s.trel h2 y2⟩
  | map kt vt es=>
    obtain⟨b1,b2,a,clock,b3,b4,b5⟩:=hb
    have hlt:=h2.inO i p _ g1 g2 rfl (by omega)
    exact⟨b1,b2,a,clock,by rw[k.block _ hlt];exact b3,b4,fun i k t e he ha=>⟨(b5 i k t e he ha).1,s.trel h2 (b5 i k t e he ha).2.1,(b5 i k t e he ha).2.2⟩⟩
  | loop fn st pe n' env' ps aas bo=>
    obtain⟨b1,b2,L,b3,b4,b5⟩:=hb
    have hlt:=h2.inO i p _ g1 g2 rfl (by omega)
    exact⟨b1,b2,L,by rw[k.block _ hlt];exact b3,b4,b5.step h2 s⟩
  | dead=>trivial
 refine wpr_of_in (region_quiet (C:=Keeps m.w) hm hB hp ⟨rfl,rfl,rfl,Nat.le_refl _,fun _ _=>rfl⟩ ?_)
 refine wpQuiet_mono ?_ l a hq
 rintro a' ⟨env',g1,g2,g3⟩ w' hw'
 obtain⟨s,hm'⟩:=keepStep w' hw'
 exact⟨_,env',.normal,rfl,s,hm',g1.step h2 s,g2.step h2 s,trivial,g3⟩
theorem TO.nil(h:K .normal env H):TO q P n all [] env H K:=by
 intro φ m a h1 h2 h3 h4
 cases q with
 | false=>exact wpListIn_nil ⟨m,env,.normal,rfl,.refl m,h2,h3,h4,trivial,h1 ▸ h⟩
 | true=>exact⟨env,h3,h4,h1 ▸ h⟩
theorem TO.sub(env':Env)(hs:env.sub env'){ops:List Oper}(h:TO q P n all ops env' H K):TO q P n all ops env H K:=
 fun φ m a h1 h2 h3 h4=>h φ m a h1 h2 (h3.sub (Env.sub_look hs)) h4
theorem wpListIn_mono{F:Fence}{n:Nat}{Q Q':Exit->Act->World->Prop}(hq:∀e a w,Q e a w->Q' e a w)(hout:∀a w,¬Q .outgrown a w):∀(l:List Oper) (a:Act) (w:World),wpListIn F n P all Q l a w->wpListIn F n P all Q' l a w
 | [],a,w,h=>hq _ _ _ h
 | o::r,a,w,h=>by
   unfold wpListIn at h⊢
   split
   ·rename_i hw
    rw[if_pos hw]at h
    unfold Oper.wpIn at h⊢
    refine⟨h.1,?_⟩
    revert h
    generalize (o.semAt F.round a.eval).run P w=r'
    rintro⟨_,h⟩
    cases r' with
    | ok x w'=>
      cases x <;> simp only[Oper.uponIn]at h⊢ <;> first
       | exact wpListIn_mono hq hout r _ _ h
       | (refine⟨h.1,CallsIn.mono h.2 fun e w2 h2=>?_⟩
          cases e with
          | returned v=>exact wpListIn_mono hq hout r _ _ h2
          | panicked ch=>exact hq _ _ _ h2
          | outgrown=>obtain⟨a0,w0,h0⟩:=h2;exact absurd h0 (hout _ _))
       | (exact⟨h.1,RowsIn.mono h.2 fun v w2 h2=>wpListIn_mono hq hout r _ _ h2⟩)
       | (refine⟨h.1,RoundIn.mono h.2 fun e w2 h2=>?_⟩
          cases e with
          | returned v=>exact wpListIn_mono hq hout r _ _ h2
          | panicked ch=>exact hq _ _ _ h2
          | outgrown=>obtain⟨a0,w0,h0⟩:=h2;exact absurd h0 (hout _ _))
    | halt x w'=>
      cases x <;> simp only[Oper.uponIn]at h⊢
      exact hq _ _ _ h
   ·rename_i hw
    rw[if_neg hw]at h
    exact⟨h.1,wpListIn_mono hq hout r _ _ h.2⟩
theorem Post.not_outgrown{φ:Fm}{m:M}{a:Act}{w:World}:¬Post φ m n K .outgrown a w:=by
 rintro⟨m2,env2,te,_,_,_,_,_,h,_⟩
 cases te <;> simp[ExRel]at h
theorem TO.step'{φ:Fm}{r:Option Nat}{ops:List Oper}{m m':M}{a:Act}(s:Step m m')(h:wpListIn (Fr r) 0 P all (Post φ m' n K) ops a m'.w):wpListIn (Fr r) 0 P all (Post φ m n K) ops a m'.w:=
 wpListIn_mono (fun _ _ _ hp=>hp.step s) (fun _ _=>Post.not_outgrown) ops a m'.w h
def wantB(all:Array Oper)(env:Env)(g:Option (Nat×Bool)):Option Bool:=
 match g with
 | none=>some true
 | some (j,want)=>match (all[j]?).bind (·.dst) with
   | some d=>match env.look d with
     | some (.t (.v (.bool b)))=>some (b == want)
     | some (.t (.v (.tuple _)))=>some false
     | _=>none
   | none=>none
theorem wanted_of{m:M}{a:Act}{o:Oper}{c:Bool}(he:ERel m n env a.tmps)(h:wantB all env o.guard=some c):Region.wanted o (yielded all a.tmps)=c:=by
 unfold Region.wanted
 cases hg:o.guard with
 | none=>rw[hg]at h;simp[wantB]at h;simp[h]
 | some g=>
   obtain⟨j,want⟩:=g
   rw[hg]at h
   simp only[wantB]at h
   simp only[yielded]
   cases hd:(all[j]?).bind (·.dst) with
   | none=>rw[hd]at h;cases h
   | some d=>
     rw[hd]at h
     simp only[]at h
     cases hv:env.look d with
     | none=>rw[hv]at h;cases h
     | some v=>
       rw[hv]at h
       obtain⟨x,h1,h2⟩:=he.2 d v hv
       split at h
       ·rename_i b heq
        cases heq
        have:=h2.v_eq
        subst this
        simp only[Option.some.injEq]at h
        subst h
        simp[h1]
       ·rename_i arr heq
        cases heq
        have:=h2.v_eq
        subst this
        simp only[Option.some.injEq]at h
        subst h
        simp[h1]
       ·cases h
theorem TO.want{d:Option Tmp}{op:Op}{ty:TypeId}{pos:String}{aft:Array Edge}{g:Nat×Bool}(hw:wantB all env (some g)=some true)
  (k:TO q P n all (⟨d,op,ty,pos,aft,none⟩::rest) env H K):TO q P n all (⟨d,op,ty,pos,aft,some g⟩::rest) env H K:=by
 intro φ m a h1 h2 h3 h4
 have h:=k φ m a h1 h2 h3 h4
 have hw':=wanted_of (o:=⟨d,op,ty,pos,aft,some g⟩) (all:=all) h3 hw
 cases q with
 | false=>
   simp only at h⊢
   unfold wpListIn at h⊢
   rw[if_pos hw']
   simp only[Region.wanted,if_true]at h
   exact h
 | true=>
   simp only at h⊢
   unfold wpQuiet at h⊢
   rw[if_pos hw']
   simp only[Region.wanted,if_true]at h
   exact h
theorem TO.pass{d:Nat}{op:Op}{ty:TypeId}{pos:String}{aft:Array Edge}{g:Nat×Bool}(hd:Nat.ble (d+1) n=true)(hw:wantB all env (some g)=some false)
  (k:TO q P n all rest ((d,.t (.v undef))::env) H K):TO q P n all (⟨some d,op,ty,pos,aft,some g⟩::rest) env H K:=by
 intro φ m a h1 h2 h3 h4
 have hw':=wanted_of (o:=⟨some d,op,ty,pos,aft,some g⟩) (all:=all) h3 hw
 have hk:=k φ m _ h1 h2 (h3.put d (Nat.le_of_ble_eq_true hd) (.t _ _ (.v undef))) (by simpa [Act.put]using h4)
 cases q with
 | false=>
   simp only at hk⊢
   unfold wpListIn
   rw[if_neg (by rw[hw'];exact Bool.false_ne_true)]
   exact⟨fun _ _=>trivial,hk⟩
 | true=>
   simp only at hk⊢
   unfold wpQuiet
   rw[if_neg (by rw[hw'];exact Bool.false_ne_true)]
   exact hk
theorem TO.pass0{op:Op}{ty:TypeId}{pos:String}{aft:Array Edge}{g:Nat×Bool}(hw:wantB all env (some g)=some false)
  (k:TO q P n all rest env H K):TO q P n all (⟨none,op,ty,pos,aft,some g⟩::rest) env H K:=by
 intro φ m a h1 h2 h3 h4
 have hw':=wanted_of (o:=⟨none,op,ty,pos,aft,some g⟩) (all:=all) h3 hw
 have hk:=k φ m _ h1 h2 h3 h4
 cases q with
 | false=>
   simp only at hk⊢
   unfold wpListIn
   rw[if_neg (by rw[hw'];exact Bool.false_ne_true)]
   exact⟨fun _ _=>trivial,hk⟩
 | true=>
   simp only at hk⊢
   unfold wpQuiet
   rw[if_neg (by rw[hw'];exact Bool.false_ne_true)]
   exact hk
theorem TO.guard{o:Oper}{c:Bool}(hw:wantB all env o.guard=some c)(ht:c=true->TO q P n all (o::rest) env H K)(hf:c=false->TO q P n all (o::rest) env H K):TO q P n all (o::rest) env H K:=by
 cases c
 ·exact hf rfl
 ·exact ht rfl
theorem TO.op{d:Nat}{op:Op}{ty:TypeId}{pos:String}{aft:Array Edge}{v:SV}(hd:Nat.ble (d+1) n=true)
  (h:∀(m:M) (a:Act),m.H=H->HRel m->ERel m n env a.tmps->∃x,(∀w',Keeps m.w w'->(execOp a.eval ⟨some d,op,ty,pos,aft,none⟩).run P w'= .ok (.value x) w')/\SRel m v x)
  (k:TO q P n all rest ((d,v)::env) H K):TO q P n all (⟨some d,op,ty,pos,aft,none⟩::rest) env H K:=by
 intro φ m a h1 h2 h3 h4
 obtain⟨x,hx,hr⟩:=h m a h1 h2 h3
 have hk:=k φ m _ h1 h2 (h3.put d (Nat.le_of_ble_eq_true hd) hr) (by simpa [Act.put]using h4)
 cases q with
 | false=>
   refine wpListIn_plain rfl fun K' hK=>?_
   unfold Oper.wpIn
   refine⟨fun _ _=>trivial,?_⟩
   rw[semAt_val (hx m.w ⟨rfl,rfl,rfl,Nat.le_refl _,fun _ _=>rfl⟩) (by intro d e;cases e)]
   simp only[Oper.uponIn]
   exact hK _ _ hk
 | true=>
   simp only at hk⊢
   unfold wpQuiet
   simp only[Region.wanted,if_true]
   exact⟨x,fun w' hw'=>by unfold Oper.quietAt;rw[hx w' hw'];exact⟨rfl,rfl⟩,hk⟩
theorem Keeps.cell{w w':World}(k:Keeps w w'){b o:Nat}(hb:b<w.heap.size):w'.cell? ⟨b,o,none⟩=w.cell? ⟨b,o,none⟩:=by simp[World.cell?,k.block b hb]
variable {d:Nat}{ty:TypeId}{pos:String}{aft:Array Edge}
theorem TO.move{x:Operand}{v:SV}(hd:Nat.ble (d+1) n=true)(hx:env.val x=some v)(k:TO q P n all rest ((d,v)::env) H K):TO q P n all (⟨some d,.move x,ty,pos,aft,none⟩::rest) env H K:=
 TO.op hd (fun m a h1 h2 h3=>⟨_,fun _ _=>rfl,h3.val hx⟩) k
theorem TO.assign{x:Operand}{v:SV}(hd:Nat.ble (d+1) n=true)(hx:env.val x=some v)(k:TO q P n all rest ((d,v)::env) H K):TO q P n all (⟨some d,.assign x,ty,pos,aft,none⟩::rest) env H K:=
 TO.op hd (fun m a h1 h2 h3=>⟨_,fun _ _=>rfl,h3.val hx⟩) k
theorem TO.pick{c x y:Operand}{b:Bool}{v:SV}(hd:Nat.ble (d+1) n=true)(hc:env.val c=some (.t (.v (.bool b))))(hx:(bif b then env.val x else env.val y)=some v)
  (k:TO q P n all rest ((d,v)::env) H K):TO q P n all (⟨some d,.pick c x y,ty,pos,aft,none⟩::rest) env H K:=
 TO.op hd (fun m a h1 h2 h3=>by
  have h:=(h3.val hc).v_eq
  refine⟨if b then a.eval x else a.eval y,?_,?_⟩
  ·intro w' _;simp[execOp,h,asBool]
  ·cases b
   ·exact h3.val hx
   ·exact h3.val hx) k
def binEval:BinOp->Value->Value->Option Value
 | .add,.int .i64 a,.int .i64 b=>some (.int .i64 (IntKind.i64.wrap (a+b)))
 | .sub,.int .i64 a,.int .i64 b=>some (.int .i64 (IntKind.i64.wrap (a-b)))
 | .mul,.int .i64 a,.int .i64 b=>some (.int .i64 (IntKind.i64.wrap (a*b)))
 | .eql,.int k a,.int k' b=>if k=k' then some (.bool (a == b)) else none
 | .neq,.int k a,.int k' b=>if k=k' then some (.bool (a != b)) else none
 | .lss,.int k a,.int k' b=>if k=k' then some (.bool (decide (a<b))) else none
 | .leq,.int k a,.int k' b=>if k=k' then some (.bool (decide (a≤b))) else none
 | .gtr,.int k a,.int k' b=>if k=k' then some (.bool (decide (b<a))) else none
 | .geq,.int k a,.int k' b=>if k=k' then some (.bool (decide (b≤a))) else none
 | .add,.int k a,.int k' b=>if k=k' then some (.int k (k.wrap (a+b))) else none
 | .sub,.int k a,.int k' b=>if k=k' then some (.int k (k.wrap (a-b))) else none
 | .mul,.int k a,.int k' b=>if k=k' then some (.int k (k.wrap (a*b))) else none
 | .eql,.string a,.string b=>some (.bool (a.data.toList == b.data.toList))
 | .neq,.string a,.string b=>some (.bool (!(a.data.toList == b.data.toList)))
 | .lss,.string a,.string b=>some (.bool (Op.bytesLess a.data.toList b.data.toList))
 | .leq,.string a,.string b=>some (.bool (Op.bytesLess a.data.toList b.data.toList || a.data.toList == b.data.toList))
 | .gtr,.string a,.string b=>some (.bool (!(Op.bytesLess a.data.toList b.data.toList || a.data.toList == b.data.toList)))
 | .geq,.string a,.string b=>some (.bool (!(Op.bytesLess a.data.toList b.data.toList)))
 | _,_,_=>none
theorem binEval_run{op:BinOp}{t:TypeId}{x y:Operand}{a b z:Value}{w:World}(h:binEval op a b=some z):
  ((do eqGuard op t x y a b;binOp op t a b):Sem Value).run P w= .ok z w:=by
 cases a <;> cases b <;> (try(cases op <;> simp[binEval]at h;done))
 ·rename_i k a k' b
  by_cases hk:k=k'
  ·subst hk
   cases op <;> (try(simp[binEval]at h;done)) <;> (try(cases k <;> simp[binEval]at h <;> subst h <;> simp[eqGuard,binOp,Op.intArith,Op.intCmp];done))
  ·cases op <;> (try(simp[binEval,hk]at h;done)) <;> (cases k <;> cases k' <;> simp[binEval]at h hk)
 ·cases op <;> (try(simp[binEval]at h;done)) <;> simp only[binEval,Option.some.injEq]at h <;> subst h <;> simp[eqGuard,binOp,Op.stringOp,ByteArray.toList_eq]
end rules
end Go.TL
