import Derived.Sort.QuietThIn
import Derived.Test.YtpfnfpaahefdaaaGreatPk0
set_option linter.all false
namespace Go.TL
open Go
abbrev Str:=List UInt8
abbrev str (l:Str):Value:=.string ⟨l.toArray⟩
abbrev SV.i (n:Int):SV:=.t (.v (.int .i64 n))
abbrev SV.b (x:Bool):SV:=.t (.v (.bool x))
abbrev SV.s (l:Str):SV:=.t (.v (str l))
abbrev T.i (n:Int):T:=.v (.int .i64 n)
abbrev T.b (x:Bool):T:=.v (.bool x)
abbrev T.s (l:Str):T:=.v (str l)
inductive TK' where
 | scalar
 | bool
 | int (k:IntKind)
 | str
 | slice (e:TypeId)
 | struct (fs:List (Nat×TypeId))
 | ptr (e:TypeId)
 | map (k e:TypeId)
 | array (n:Nat) (e:TypeId)
 | iface
structure TyI where
 k:TK'
 size:Nat
 bytes:Nat
 zero:List T
inductive Tab where
 | leaf
 | node (l:Tab) (k:Nat) (v:TyI) (r:Tab)
def Tab.get:Tab->TypeId->Option TyI
 | .leaf,_=>none
 | .node l k v r,i=>bif Nat.beq i k then some v else bif Nat.blt i k then Tab.get l i else Tab.get r i
def Tab.every(f:TypeId->TyI->Bool):Tab->Bool
 | .leaf=>true
 | .node l k v r=>f k v && (Tab.every f l && Tab.every f r)
def TK'.fits:TK'->TypeDesc->Bool
 | .scalar,.bool| .scalar,.int _| .str,.string| .bool,.bool=>true
 | .int k,.int l=>k == l
 | .slice e,.slice f=>e == f
 | .struct fs,.struct gs=>fs == gs.toList.map fun f=>(f.offset,f.type)
 | .ptr e,.pointer f=>e == f
 | .map k e,.map l f=>k == l && e == f
 | .array n e,.array m f=>n == m && e == f
 | .iface,.interface _=>true
 | .scalar,.func .. =>true
 | _,_=>false
def T.fits:T->Value->Bool
 | .v (.bool a),.bool b=>a == b
 | .v (.int k a),.int l b=>k == l && a == b
 | .v (.string a),.string b=>a.data == b.data
 | .v (.pointer none),.pointer none=>true
 | .v (.map none),.map none=>true
 | .v .nilFunc,.nilFunc=>true
 | .v .nilIface,.nilIface=>true
 | .sl _ [],.slice none 0 0=>true
 | .v (.slice none 0 0),.slice none 0 0=>true
 | _,_=>false
def zdg:List T->List Value->Bool
 | [],[]=>true
 | t::ts,v::vs=>t.fits v && zdg ts vs
 | _,_=>false
def TK'.agg:TK'->Bool
 | .struct _| .array _ _=>true
 | _=>false
def zn7(P:Program)(t:TypeId)(i:TyI):Bool:=
 match P.underlying t,P.info? t with
 | some d,some ti=>i.k.fits d && ti.size == i.size && (ti.bytes == i.bytes && i.zero.length == i.size) && (match ti.zero with
   | some z=>zdg i.zero z.cells.toList && (match i.k,z with| .struct _,.agg _| .array _ _,.agg _=>true| .struct _,_| .array _ _,_=>false|_,.agg _=>false|_,.tuple _=>false|_,_=>true)
   | none=>false)
 | _,_=>false
def zny(P:Program)(tab:Tab):Bool:=tab.every (zn7 P)
structure Fit (P:Program) (t:TypeId) (i:TyI):Prop where
 len:i.zero.length=i.size
 ex:∃d ti z,P.underlying t=some d/\P.info? t=some ti/\i.k.fits d=true/\ti.size=i.size/\ti.bytes=i.bytes/\ti.zero=some z/\zdg i.zero z.cells.toList=true/\
  (i.k.agg=true->∃cs,z= .agg cs)/\(i.k.agg=false->z.oneCell'=true)
def zaA(P:Program)(tab:Tab):Prop:=∀t i,tab.get t=some i->Fit P t i
theorem Tab.zfG{f:TypeId->TyI->Bool}:∀ {tab:Tab} {t:TypeId} {i:TyI},tab.every f=true->tab.get t=some i->f t i=true
 | .leaf,_,_,_,h=>by simp[Tab.get]at h
 | .node l k v r,t,i,he,h=>by
   simp only[Tab.every,qat]at he
   simp only[Tab.get]at h
   cases hb:Nat.beq t k with
   | true=>
     rw[hb]at h
     simp only[cond_true,qaB]at h
     have:=qaS hb
     subst this;subst h;exact he.1
   | false=>
     rw[hb]at h
     cases hl:Nat.blt t k with
     | true=>rw[hl]at h;exact Tab.zfG he.2.1 h
     | false=>rw[hl]at h;exact Tab.zfG he.2.2 h
theorem zgi{P:Program}{tab:Tab}(h:zny P tab=true):zaA P tab:=by
 intro t i hi
 have:=Tab.zfG h hi
 unfold zn7 at this
 split at this
 ·rename_i d ti h1 h2
  simp only[qat,beq_iff_eq]at this
  obtain⟨⟨⟨h3,h4⟩,h5,h5'⟩,h6⟩:=this
  split at h6
  ·rename_i z hz
   simp only[qat]at h6
   obtain⟨h7,h8⟩:=h6
   refine⟨h5',d,ti,z,h1,h2,h3,h4,h5,hz,h7,fun ha=>?_,fun ha=>?_⟩
   ·cases hk:i.k <;> simp[hk,TK'.agg]at ha <;> (cases z <;> simp[hk]at h8 <;> exact⟨_,rfl⟩)
   ·cases hk:i.k <;> simp[hk,TK'.agg]at ha <;> (cases z <;> simp[hk,Value.oneCell']at h8⊢)
  ·cases h6
 ·cases this
section rules
variable {P:Program}{n:Nat}{env:Env}{H:Heap}{K:TK}{all:Array Oper}{rest:List Oper}{q:Bool}
theorem TR.region{id:Nat}{l:List Oper}(h:TO false P n l.toArray l env H K):TR P n (.region id l.toArray false) env H K:=
 fun φ m a h1 h2 h3 h4=>zbC (wpIn_region_lit (h φ m a h1 h2 h3 h4))
theorem zcR{C:World->Prop}{Q Q':Act->Prop}(hq:∀a,Q a->Q' a):∀(l:List Oper) (a:Act),wpQuiet P all C Q l a->wpQuiet P all C Q' l a
 | [],a,h=>hq a h
 | o::r,a,h=>by
   unfold wpQuiet at h⊢
   split
   ·rename_i hw;rw[if_pos hw]at h;exact Oper.quiet_mono (fun a' h'=>zcR hq r a' h') h
   ·rename_i hw;rw[if_neg hw]at h;exact zcR hq r _ h
theorem zhe{w:World}{b:Nat}{s:TypeId×Nat}(h:w.shape? b=some s):b<w.heap.size:=by
 unfold World.shape? at h
 cases hq:w.heap[b]? with
 | none=>rw[hq]at h;cases h
 | some o=>exact(qah.1 hq).1
theorem zbN{w w':World}{b:Nat}(h:w'.heap[b]?=w.heap[b]?):w'.shape? b=w.shape? b:=by simp[World.shape?,h]
theorem zgK{w w':World}(k:Keeps w w'){b:Nat}{s:TypeId×Nat}(h:w.shape? b=some s):w'.shape? b=some s:=by
 rw[zbN (k.block b (zhe h))];exact h
theorem zee{r:Option Nat}{f:FuncId}{args:Array Value}{w:World}{R:Ending->World->Prop}(h:Calls P f args w R):CallsIn (Fr r) 0 P f args w R:=callsIn_wide.2 h
theorem zfq{r:Option Nat}{f:FuncId}{args:Array Value}{w:World}{R:Ending->World->Prop}(h:CallsIn (Fr r) 0 P f args w R):Calls P f args w R:=callsIn_wide.1 h
def Op.plain:Op->Bool
 | .defer _=>false
 | _=>true
theorem Op.znl{o:Op}(h:Op.plain o=true):∀c,o≠ .defer c:=by
 intro c e;subst e;simp[Op.plain]at h
theorem zbf{r:Option Nat}{ρ:Operand->Value}{o:Oper}{w:World}{x:Next}{w':World}(h:(execOp ρ o).run P w= .ok x w')(hx:∀d,x≠ .defer d):(o.semAt r ρ).run P w= .ok x w':=by
 by_cases hd:∃c,o.op= .defer c
 ·obtain⟨c,hc⟩:=hd
  exfalso
  unfold execOp at h
  rw[hc]at h
  simp only[Sem.run_bind]at h
  cases hr:(resolve ρ c o.type).run P w with
  | ok d w1=>rw[hr]at h;simp at h;exact hx d h.1.symm
  | halt e w1=>rw[hr]at h;simp at h
 ·rw[Oper.semAt_eq _ _ _ (fun c hc=>hd ⟨c,hc⟩)];exact h
theorem zgJ{r:Option Nat}{ρ:Operand->Value}{o:Oper}{w:World}(h:Op.plain o.op=true):(o.semAt r ρ).run P w=(execOp ρ o).run P w:=by
 rw[Oper.semAt_eq _ _ _ (Op.znl h)]
theorem zfg{r:Option Nat}{C:World->Prop}{Q:Act->Prop}:∀(l:List Oper) (a:Act),wpQuiet P all C Q l a->wpQuietIn (Fr r) 0 P all C Q l a
 | [],a,h=>h
 | o::l,a,h=>by
   unfold wpQuiet at h
   unfold wpQuietIn
   refine⟨fun _ _ _ _=>trivial,?_⟩
   split
   ·rename_i hw
    rw[if_pos hw]at h
    obtain⟨v,h1,h2⟩:=h
    refine⟨v,fun w hw=>?_,zfg l _ h2⟩
    have h3:=h1 w hw
    unfold Oper.quietAt at h3
    unfold Oper.quietAtIn
    generalize (execOp a.eval o).run P w=z at h3⊢
    cases z with
    | ok x w'=>
      cases x <;> simp only[Oper.quietUpon]at h3 <;> simp only[Oper.quietUponIn] <;> first
       | exact h3
       | exact⟨h3.1,fun h=>(by simp[Fence.wide]at h),zee h3.2⟩
    | halt x w'=>simp only[Oper.quietUpon]at h3
   ·rename_i hw
    rw[if_neg hw]at h
    exact zfg l _ h
theorem zfQ{r:Option Nat}{C:World->Prop}{o:Oper}{a:Act}{K:Act->Prop}{K':Act->World->Prop}{Q':Exit->Act->World->Prop}{w:World}(hp:Op.plain o.op=true)(hw:C w)(h:∀a w',C w'->K a->K' a w')
  (hh:o.quietIn (Fr r) 0 P a C K):o.wpIn (Fr r) 0 P a w K' Q':=by
 obtain⟨v,h1,h2⟩:=hh
 have h3:=h1 w hw
 unfold Oper.quietAtIn at h3
 unfold Oper.wpIn
 refine⟨fun _ _=>trivial,?_⟩
 rw[zgJ hp]
 generalize (execOp a.eval o).run P w=z at h3⊢
 cases z with
 | ok x w'=>
   cases x <;> simp only[Oper.quietUponIn]at h3 <;> simp only[Oper.uponIn]
   case value u=>
    obtain⟨rfl,rfl⟩:=h3
    exact h _ _ hw h2
   case skip=>
    obtain⟨rfl,rfl⟩:=h3
    exact h _ _ hw h2
   case enter f args=>
    obtain⟨rfl,hd,hc⟩:=h3
    refine⟨hd,zee (Calls.mono (zfq hc) ?_)⟩
    rintro e w2 ⟨rfl,hw2⟩
    exact h _ _ hw2 h2
 | halt x w'=>simp only[Oper.quietUponIn]at h3
theorem zcH{r:Option Nat}{C:World->Prop}{md:Region.Mode}{Q:Act->Prop}{Q':Exit->Act->World->Prop}(hp:∀(i:Nat) o,all[i]?=some o->Op.plain o.op=true)(hQ:∀a w,C w->Q a->Q' .normal a w):∀(fuel:Nat) (listed:Array Bool) (a:Act) (w:World),C w->
  wpAnyQIn (Fr r) 0 P md all C Q fuel listed a->wpAnyIn (Fr r) 0 P md all Q' fuel listed a w
 | 0,_,_,_,hw,h=>⟨h.1,hQ _ _ hw h.2⟩
 | fuel+1,listed,a,w,hw,h=>⟨fun h0=>hQ _ _ hw (h.1 h0),fun i hi=>by
    have h2:=h.2 i hi
    unfold qOpIn at h2
    unfold wpOpIn
    cases ho:all[i]? with
    | none=>simp only[ho]at h2⊢;exact zcH hp hQ fuel _ _ _ hw h2
    | some o=>
      simp only[ho]at h2⊢
      obtain⟨_,h2⟩:=h2
      split
      ·rename_i hwt
       rw[if_pos hwt]at h2
       exact zfQ (hp i o ho) hw (fun a' w' hw' hk=>zcH hp hQ fuel _ a' w' hw' hk) h2
      ·rename_i hwt
       rw[if_neg hwt]at h2
       exact⟨fun _ _=>trivial,zcH hp hQ fuel _ _ _ hw h2⟩⟩
theorem zid{r:Option Nat}{C:World->Prop}{id:Nat}{l:List Oper}{Q:Exit->Act->World->Prop}{a:Act}{w:World}(hm:P.follows .mixedOrders=true)(hB:Region.lexB .any l.toArray=true)(hp:l.all (fun o=>Op.plain o.op)=true)
  (hC:C { w with drawn:=w.drawn+1 })(h:wpQuiet P l.toArray C (fun a'=>∀w',C w'->Q .normal a' w') l a):(Code.region id l.toArray true).wpIn (Fr r) 0 P Q a w:=by
 simp only[Region.lexB,qat]at hB
 refine wpIn_region_any hm (zcH (Q:=fun a'=>∀w',C w'->Q .normal a' w') (fun i o ho=>?_) (fun _ w' hw' h=>h w' hw') _ _ _ _ hC ?_)
 ·exact qaw.1 hp o (qay (by simpa using ho))
 ·have:=wpAnyQIn_lex (F:=Fr r) (n:=0) (P:=P) (C:=C) (md:=.any) (Q:=fun a'=>∀w',C w'->Q .normal a' w') hB.1 l 0 (Array.replicate l.toArray.size false) a (by simp) (by simpa using hB.2) (zfg l a h)
  simpa using this
theorem zoF{m:M}(hm:HRel m){k:Nat}{x:Option (List Deferred)}(h:m.w.heap[k]?=some (.deferred x))(o:Nat):¬Own m k o:=by
 rintro⟨i,p,kk,h1,h2,h3,rfl,h5,h6⟩
 have hb:=hm.blk i p kk h1 h2
 have hn:∀o,m.w.cell? ⟨p.b,o,none⟩=none:=fun o=>by simp[World.cell?,h]
 cases kk with
 | cells cs=>have:=(hb.2.1 o h5 h6).1;rw[hn]at this;cases this
 | tail n=>have:=(hb o h5 h6).1;rw[hn]at this;cases this
 | row e cs=>have:=(hb.2.1 o h5 h6).1;rw[hn]at this;cases this
 | map kt vt es=>obtain⟨_,_,a,c,g,_⟩:=hb;rw[h]at g;cases g
 | loop fn st pe n env ps aas bo=>obtain⟨_,_,L,g,_⟩:=hb;rw[h]at g;cases g
 | dead=>simp[Blk.live]at h3
theorem zck.step{φ:Fm}{m m':M}(hm:HRel m)(s:Step m m'){l:List Deferred}(h:zck φ m.w l):zck φ m'.w l:=by
 obtain⟨⟨ks,h1,h2,h4,h3⟩,h5,h6⟩:=h
 refine⟨⟨ks,h1,h2,h4,fun k hk=>?_⟩,qbg h5 s.size,fun l hl=>let ⟨L,hL⟩:=h6 l hl;s.loop l L hL⟩
 obtain⟨g2,g3⟩:=h3 k hk
 exact⟨g2,by rw[s.block k (qah.1 g3).1 (zoF hm g3)];exact g3⟩
theorem TR.za1{id:Nat}{l:List Oper}(hm:P.follows .mixedOrders=true)(hB:Region.lexB .any l.toArray=true)(hp:l.all (fun o=>Op.plain o.op)=true)(h:TO true P n l.toArray l env H K):TR P n (.region id l.toArray true) env H K:=by
 intro φ m a h1 h2 h3 h4
 have hq:=h φ m a h1 h2 h3 h4
 have keepStep:∀w',Keeps m.w w'->Step m ⟨m.A,m.β,m.H,w'⟩/\HRel ⟨m.A,m.β,m.H,w'⟩:=by
  intro w' k
  have hc:∀b o,b<m.w.heap.size->w'.cell? ⟨b,o,none⟩=m.w.cell? ⟨b,o,none⟩:=fun b o hb=>by simp[World.cell?,k.block b hb]
  have hf:∀b o,b<m.w.heap.size->w'.frozen? ⟨b,o,none⟩=m.w.frozen? ⟨b,o,none⟩:=fun b o hb=>by simp[World.frozen?,k.block b hb]
  have s:Step m ⟨m.A,m.β,m.H,w'⟩:=⟨k.os,k.tape,k.output,k.size,fun _ _ h=>h,fun _ _ h=>.inl h,fun _ _ h=>.inl h,fun b o hb _=>hc b o hb,fun b o hb _ _=>hf b o hb,fun b hb _=>k.block b hb,fun b s hs=>zgK k hs,fun b L hL=>⟨L,by show w'.heap[b]?=_;rw[k.block b (qah.1 hL).1];exact hL⟩,fun b o hb h=>by rw[hc b o hb];exact h,(Step.refl m).ids⟩
  refine⟨s,h2.len,fun i p kk g1 g2=>?_,h2.apart,h2.still,fun b o h=>qaL (h2.inA b o h) k.size,fun i p kk g1 g2 g3 g4=>qaL (h2.inO i p kk g1 g2 g3 g4) k.size,s.glob h2⟩
  have hb:=h2.blk i p kk g1 g2
  cases kk with
  | cells cs=>
    obtain⟨b1,b2,b3⟩:=hb
    refine⟨b1,fun o ho ho'=>?_,fun j c hc'=>?_⟩
    ·exact zwcv
    ·obtain⟨y,y1,y0,y2⟩:=b3 j c hc'
     have hj:=(qaa.1 hc').1
     have hlt:=h2.inO i p _ g1 g2 rfl (by omega)
     exact⟨y,by rw[hc _ _ hlt];exact y1,y0,s.srel h2 y2⟩
  | tail t=>
    intro o ho ho'
    have:=hb o ho ho'
    have hlt:=h2.inO i p _ g1 g2 rfl (by omega)
    unfold Free at this⊢
    rw[hc _ _ hlt,hf _ _ hlt];exact this
  | row e cs=>
    obtain⟨b1,b2,b3⟩:=hb
    refine⟨⟨b1.1,b1.2.1,fun h=>zgK k (b1.2.2 h)⟩,fun o ho ho'=>?_,fun j c hc'=>?_⟩
    ·exact zwcv
    ·obtain⟨y,y1,y0,y2⟩:=b3 j c hc'
     have hj:=(qaa.1 hc').1
     have hlt:=h2.inO i p _ g1 g2 rfl (by omega)
     exact⟨y,by rw[hc _ _ hlt];exact y1,y0,s.trel h2 y2⟩
  | map kt vt es=>
    obtain⟨b1,b2,a,clock,b3,b4,b5⟩:=hb
    have hlt:=h2.inO i p _ g1 g2 rfl (by omega)
    exact⟨b1,b2,a,clock,by rw[k.block _ hlt];exact b3,b4,fun i k t e he ha=>⟨(b5 i k t e he ha).1,s.trel h2 (b5 i k t e he ha).2.1,(b5 i k t e he ha).2.2⟩⟩
  | loop fn st pe n' env' ps aas bo=>
    obtain⟨b1,b2,L,b3,b4,b5⟩:=hb
    have hlt:=h2.inO i p _ g1 g2 rfl (by omega)
    exact⟨b1,b2,L,by rw[k.block _ hlt];exact b3,b4,b5.step h2 s⟩
  | dead=>trivial
 refine zbC (zid (C:=Keeps m.w) hm hB hp ⟨rfl,rfl,rfl,qae _,fun _ _=>rfl⟩ ?_)
 refine zcR ?_ l a hq
 rintro a' ⟨env',g1,g2,g3⟩ w' hw'
 obtain⟨s,hm'⟩:=keepStep w' hw'
 exact⟨_,env',.normal,rfl,s,hm',g1.step h2 s,g2.step h2 s,trivial,g3⟩
theorem TO.nil(h:K .normal env H):TO q P n all [] env H K:=by
 intro φ m a h1 h2 h3 h4
 cases q with
 | false=>exact wpListIn_nil ⟨m,env,.normal,rfl,.refl m,h2,h3,h4,trivial,h1 ▸ h⟩
 | true=>exact⟨env,h3,h4,h1 ▸ h⟩
theorem zaV{F:Fence}{n:Nat}{Q Q':Exit->Act->World->Prop}(hq:∀e a w,Q e a w->Q' e a w)(hout:∀a w,¬Q .outgrown a w):∀(l:List Oper) (a:Act) (w:World),wpListIn F n P all Q l a w->wpListIn F n P all Q' l a w
 | [],a,w,h=>hq _ _ _ h
 | o::r,a,w,h=>by
   unfold wpListIn at h⊢
   split
   ·rename_i hw
    rw[if_pos hw]at h
    unfold Oper.wpIn at h⊢
    refine⟨h.1,?_⟩
    revert h
    generalize (o.semAt F.round a.eval).run P w=r'
    rintro⟨_,h⟩
    cases r' with
    | ok x w'=>
      cases x <;> simp only[Oper.uponIn]at h⊢ <;> first
       | exact zaV hq hout r _ _ h
       | (refine⟨h.1,CallsIn.mono h.2 fun e w2 h2=>?_⟩
          cases e with
          | returned v=>exact zaV hq hout r _ _ h2
          | panicked ch=>exact hq _ _ _ h2
          | outgrown=>obtain⟨a0,w0,h0⟩:=h2;exact absurd h0 (hout _ _))
       | (exact⟨h.1,RowsIn.mono h.2 fun v w2 h2=>zaV hq hout r _ _ h2⟩)
       | (refine⟨h.1,RoundIn.mono h.2 fun e w2 h2=>?_⟩
          cases e with
          | returned v=>exact zaV hq hout r _ _ h2
          | panicked ch=>exact hq _ _ _ h2
          | outgrown=>obtain⟨a0,w0,h0⟩:=h2;exact absurd h0 (hout _ _))
    | halt x w'=>
      cases x <;> simp only[Oper.uponIn]at h⊢
      exact hq _ _ _ h
   ·rename_i hw
    rw[if_neg hw]at h
    exact⟨h.1,zaV hq hout r _ _ h.2⟩
theorem Post.zcb{φ:Fm}{m:M}{a:Act}{w:World}:¬Post φ m n K .outgrown a w:=by
 rintro⟨m2,env2,te,_,_,_,_,_,h,_⟩
 cases te <;> simp[za5]at h
theorem TO.ze5{φ:Fm}{r:Option Nat}{ops:List Oper}{m m':M}{a:Act}(s:Step m m')(h:wpListIn (Fr r) 0 P all (Post φ m' n K) ops a m'.w):wpListIn (Fr r) 0 P all (Post φ m n K) ops a m'.w:=
 zaV (fun _ _ _ hp=>hp.step s) (fun _ _=>Post.zcb) ops a m'.w h
def zis(all:Array Oper)(env:Env)(g:Option (Nat×Bool)):Option Bool:=
 match g with
 | none=>some true
 | some (j,want)=>match (all[j]?).bind (·.dst) with
   | some d=>match env.look d with
     | some (.t (.v (.bool b)))=>some (b == want)
     | some (.t (.v (.tuple _)))=>some false
     | _=>none
   | none=>none
theorem zga{m:M}{a:Act}{o:Oper}{c:Bool}(he:ERel m n env a.tmps)(h:zis all env o.guard=some c):Region.wanted o (yielded all a.tmps)=c:=by
 unfold Region.wanted
 cases hg:o.guard with
 | none=>rw[hg]at h;simp[zis]at h;simp[h]
 | some g=>
   obtain⟨j,want⟩:=g
   rw[hg]at h
   simp only[zis]at h
   simp only[yielded]
   cases hd:(all[j]?).bind (·.dst) with
   | none=>rw[hd]at h;cases h
   | some d=>
     rw[hd]at h
     simp only[]at h
     cases hv:env.look d with
     | none=>rw[hv]at h;cases h
     | some v=>
       rw[hv]at h
       obtain⟨x,h1,h2⟩:=he.2 d v hv
       split at h
       ·rename_i b heq
        cases heq
        have:=h2.v_eq
        subst this
        simp only[qaB]at h
        subst h
        simp[h1]
       ·rename_i arr heq
        cases heq
        have:=h2.v_eq
        subst this
        simp only[qaB]at h
        subst h
        simp[h1]
       ·cases h
theorem TO.want{d:Option Tmp}{op:Op}{ty:TypeId}{pos:String}{aft:Array Edge}{g:Nat×Bool}(hw:zis all env (some g)=some true)
  (k:TO q P n all (⟨d,op,ty,pos,aft,none⟩::rest) env H K):TO q P n all (⟨d,op,ty,pos,aft,some g⟩::rest) env H K:=by
 intro φ m a h1 h2 h3 h4
 have h:=k φ m a h1 h2 h3 h4
 have hw':=zga (o:=⟨d,op,ty,pos,aft,some g⟩) (all:=all) h3 hw
 cases q with
 | false=>
   simp only at h⊢
   unfold wpListIn at h⊢
   rw[if_pos hw']
   simp only[Region.wanted,if_true]at h
   exact h
 | true=>
   simp only at h⊢
   unfold wpQuiet at h⊢
   rw[if_pos hw']
   simp only[Region.wanted,if_true]at h
   exact h
theorem TO.pass{d:Nat}{op:Op}{ty:TypeId}{pos:String}{aft:Array Edge}{g:Nat×Bool}(hd:Nat.ble (d+1) n=true)(hw:zis all env (some g)=some false)
  (k:TO q P n all rest ((d,.t (.v undef))::env) H K):TO q P n all (⟨some d,op,ty,pos,aft,some g⟩::rest) env H K:=by
 intro φ m a h1 h2 h3 h4
 have hw':=zga (o:=⟨some d,op,ty,pos,aft,some g⟩) (all:=all) h3 hw
 have hk:=k φ m _ h1 h2 (h3.put d (qaf hd) (.t _ _ (.v undef))) (by simpa [Act.put]using h4)
 cases q with
 | false=>
   simp only at hk⊢
   unfold wpListIn
   rw[if_neg (by rw[hw'];exact qbE)]
   exact⟨fun _ _=>trivial,hk⟩
 | true=>
   simp only at hk⊢
   unfold wpQuiet
   rw[if_neg (by rw[hw'];exact qbE)]
   exact hk
theorem TO.zcr{op:Op}{ty:TypeId}{pos:String}{aft:Array Edge}{g:Nat×Bool}(hw:zis all env (some g)=some false)
  (k:TO q P n all rest env H K):TO q P n all (⟨none,op,ty,pos,aft,some g⟩::rest) env H K:=by
 intro φ m a h1 h2 h3 h4
 have hw':=zga (o:=⟨none,op,ty,pos,aft,some g⟩) (all:=all) h3 hw
 have hk:=k φ m _ h1 h2 h3 h4
 cases q with
 | false=>
   simp only at hk⊢
   unfold wpListIn
   rw[if_neg (by rw[hw'];exact qbE)]
   exact⟨fun _ _=>trivial,hk⟩
 | true=>
   simp only at hk⊢
   unfold wpQuiet
   rw[if_neg (by rw[hw'];exact qbE)]
   exact hk
theorem TO.op{d:Nat}{op:Op}{ty:TypeId}{pos:String}{aft:Array Edge}{v:SV}(hd:Nat.ble (d+1) n=true)
  (h:∀(m:M) (a:Act),m.H=H->HRel m->ERel m n env a.tmps->∃x,(∀w',Keeps m.w w'->(execOp a.eval ⟨some d,op,ty,pos,aft,none⟩).run P w'= .ok (.value x) w')/\SRel m v x)
  (k:TO q P n all rest ((d,v)::env) H K):TO q P n all (⟨some d,op,ty,pos,aft,none⟩::rest) env H K:=by
 intro φ m a h1 h2 h3 h4
 obtain⟨x,hx,hr⟩:=h m a h1 h2 h3
 have hk:=k φ m _ h1 h2 (h3.put d (qaf hd) hr) (by simpa [Act.put]using h4)
 cases q with
 | false=>
   refine wpListIn_plain rfl fun K' hK=>?_
   unfold Oper.wpIn
   refine⟨fun _ _=>trivial,?_⟩
   rw[zbf (hx m.w ⟨rfl,rfl,rfl,qae _,fun _ _=>rfl⟩) (by intro d e;cases e)]
   simp only[Oper.uponIn]
   exact hK _ _ hk
 | true=>
   simp only at hk⊢
   unfold wpQuiet
   simp only[Region.wanted,if_true]
   exact⟨x,fun w' hw'=>by unfold Oper.quietAt;rw[hx w' hw'];exact⟨rfl,rfl⟩,hk⟩
theorem Keeps.cell{w w':World}(k:Keeps w w'){b o:Nat}(hb:b<w.heap.size):w'.cell? ⟨b,o,none⟩=w.cell? ⟨b,o,none⟩:=by simp[World.cell?,k.block b hb]
variable {d:Nat}{ty:TypeId}{pos:String}{aft:Array Edge}
theorem TO.move{x:Operand}{v:SV}(hd:Nat.ble (d+1) n=true)(hx:env.val x=some v)(k:TO q P n all rest ((d,v)::env) H K):TO q P n all (⟨some d,.move x,ty,pos,aft,none⟩::rest) env H K:=
 TO.op hd (fun m a h1 h2 h3=>⟨_,fun _ _=>rfl,h3.val hx⟩) k
theorem TO.assign{x:Operand}{v:SV}(hd:Nat.ble (d+1) n=true)(hx:env.val x=some v)(k:TO q P n all rest ((d,v)::env) H K):TO q P n all (⟨some d,.assign x,ty,pos,aft,none⟩::rest) env H K:=
 TO.op hd (fun m a h1 h2 h3=>⟨_,fun _ _=>rfl,h3.val hx⟩) k
theorem TO.pick{c x y:Operand}{b:Bool}{v:SV}(hd:Nat.ble (d+1) n=true)(hc:env.val c=some (.t (.v (.bool b))))(hx:(bif b then env.val x else env.val y)=some v)
  (k:TO q P n all rest ((d,v)::env) H K):TO q P n all (⟨some d,.pick c x y,ty,pos,aft,none⟩::rest) env H K:=
 TO.op hd (fun m a h1 h2 h3=>by
  have h:=(h3.val hc).v_eq
  refine⟨if b then a.eval x else a.eval y,?_,?_⟩
  ·intro w' _;simp[execOp,h,asBool]
  ·cases b
   ·exact h3.val hx
   ·exact h3.val hx) k
def zbq:BinOp->Value->Value->Option Value
 | .add,.int .i64 a,.int .i64 b=>some (.int .i64 (IntKind.i64.wrap (a+b)))
 | .sub,.int .i64 a,.int .i64 b=>some (.int .i64 (IntKind.i64.wrap (a-b)))
 | .mul,.int .i64 a,.int .i64 b=>some (.int .i64 (IntKind.i64.wrap (a*b)))
 | .eql,.int k a,.int k' b=>if k=k' then some (.bool (a == b)) else none
 | .neq,.int k a,.int k' b=>if k=k' then some (.bool (a != b)) else none
 | .lss,.int k a,.int k' b=>if k=k' then some (.bool (decide (a<b))) else none
 | .leq,.int k a,.int k' b=>if k=k' then some (.bool (decide (a≤b))) else none
 | .gtr,.int k a,.int k' b=>if k=k' then some (.bool (decide (b<a))) else none
 | .geq,.int k a,.int k' b=>if k=k' then some (.bool (decide (b≤a))) else none
 | .add,.int k a,.int k' b=>if k=k' then some (.int k (k.wrap (a+b))) else none
 | .sub,.int k a,.int k' b=>if k=k' then some (.int k (k.wrap (a-b))) else none
 | .mul,.int k a,.int k' b=>if k=k' then some (.int k (k.wrap (a*b))) else none
 | .eql,.string a,.string b=>some (.bool (a.data.toList == b.data.toList))
 | .neq,.string a,.string b=>some (.bool (!(a.data.toList == b.data.toList)))
 | .lss,.string a,.string b=>some (.bool (Op.bytesLess a.data.toList b.data.toList))
 | .leq,.string a,.string b=>some (.bool (Op.bytesLess a.data.toList b.data.toList || a.data.toList == b.data.toList))
 | .gtr,.string a,.string b=>some (.bool (!(Op.bytesLess a.data.toList b.data.toList || a.data.toList == b.data.toList)))
 | .geq,.string a,.string b=>some (.bool (!(Op.bytesLess a.data.toList b.data.toList)))
 | _,_,_=>none
theorem ziz{op:BinOp}{t:TypeId}{x y:Operand}{a b z:Value}{w:World}(h:zbq op a b=some z):
  ((do eqGuard op t x y a b;binOp op t a b):Sem Value).run P w= .ok z w:=by
 cases a <;> cases b <;> (try(cases op <;> simp[zbq]at h;done))
 ·rename_i k a k' b
  by_cases hk:k=k'
  ·subst hk
   cases op <;> (try(simp[zbq]at h;done)) <;> (try(cases k <;> simp[zbq]at h <;> subst h <;> simp[eqGuard,binOp,Op.intArith,Op.intCmp];done))
  ·cases op <;> (try(simp[zbq,hk]at h;done)) <;> (cases k <;> cases k' <;> simp[zbq]at h hk)
 ·cases op <;> (try(simp[zbq]at h;done)) <;> simp only[zbq,qaB]at h <;> subst h <;> simp[eqGuard,binOp,Op.stringOp,ByteArray.toList_eq]
end rules
theorem zbS(b o k:Nat):(⟨b,o,none⟩:Addr).add k=⟨b,o+k,none⟩:=by
 unfold Addr.add;split
 ·rename_i h;subst h;rfl
 ·rfl
section rules
variable {P:Program}{n:Nat}{env:Env}{H:Heap}{K:TK}{all:Array Oper}{rest:List Oper}{tab:Tab}{q:Bool}
variable {d:Nat}{ty:TypeId}{pos:String}{aft:Array Edge}
theorem TO.bin{op:BinOp}{t t':TypeId}{x y:Operand}{a b z:Value}(hd:Nat.ble (d+1) n=true)(hx:env.val x=some (.t (.v a)))(hy:env.val y=some (.t (.v b)))
  (hz:zbq op a b=some z)(k:TO q P n all rest ((d,.t (.v z))::env) H K):TO q P n all (⟨some d,.binOp op t x y t',ty,pos,aft,none⟩::rest) env H K:=
 TO.op hd (fun m ac h1 h2 h3=>⟨z,fun w' hw'=>by
  have ex:=(h3.val hx).v_eq
  have ey:=(h3.val hy).v_eq
  have:=ziz (P:=P) (t:=t) (x:=x) (y:=y) (w:=w') hz
  simp only[execOp,ex,ey]
  rw[Sem.run_bind,this];rfl,.t _ _ (.v z)⟩) k
theorem zeK{x:Int}(h1:-9223372036854775808≤x)(h2:x≤9223372036854775807):IntKind.i64.wrap x=x:=IntWalk.i64_in x (by omega)
theorem TO.add{t t':TypeId}{x y:Operand}{a b:Int}(hd:Nat.ble (d+1) n=true)(hx:env.val x=some (.t (.v (.int .i64 a))))(hy:env.val y=some (.t (.v (.int .i64 b))))
  (h1:-9223372036854775808≤a+b)(h2:a+b≤9223372036854775807)(k:TO q P n all rest ((d,.t (.v (.int .i64 (a+b))))::env) H K):TO q P n all (⟨some d,.binOp .add t x y t',ty,pos,aft,none⟩::rest) env H K:=
 TO.bin hd hx hy (by rw[show zbq .add (.int .i64 a) (.int .i64 b)=some (.int .i64 (IntKind.i64.wrap (a+b))) from rfl,zeK h1 h2]) k
theorem TO.zaH{t t':TypeId}{x y:Operand}{a b:Int}(hd:Nat.ble (d+1) n=true)(hx:env.val x=some (.t (.v (.int .i64 a))))(hy:env.val y=some (.t (.v (.int .i64 b))))
  (h1:-9223372036854775808≤a-b)(h2:a-b≤9223372036854775807)(k:TO q P n all rest ((d,.t (.v (.int .i64 (a-b))))::env) H K):TO q P n all (⟨some d,.binOp .sub t x y t',ty,pos,aft,none⟩::rest) env H K:=
 TO.bin hd hx hy (by rw[show zbq .sub (.int .i64 a) (.int .i64 b)=some (.int .i64 (IntKind.i64.wrap (a-b))) from rfl,zeK h1 h2]) k
theorem TO.bquo{k':IntKind}{t t':TypeId}{x y:Operand}{a b:Int}(hd:Nat.ble (d+1) n=true)(hx:env.val x=some (.t (.v (.int k' a))))(hy:env.val y=some (.t (.v (.int k' b))))
  (hb:b≠0)(k:TO q P n all rest ((d,.t (.v (.int k' (k'.wrap (a.tdiv b)))))::env) H K):TO q P n all (⟨some d,.binOp .quo t x y t',ty,pos,aft,none⟩::rest) env H K:=
 TO.op hd (fun m ac h1 h2 h3=>⟨_,fun w' hw'=>by
  have ex:=(h3.val hx).v_eq
  have ey:=(h3.val hy).v_eq
  simp[execOp,ex,ey,eqGuard,binOp,Op.intDiv,hb],.t _ _ (.v _)⟩) k
theorem TO.brem{k':IntKind}{t t':TypeId}{x y:Operand}{a b:Int}(hd:Nat.ble (d+1) n=true)(hx:env.val x=some (.t (.v (.int k' a))))(hy:env.val y=some (.t (.v (.int k' b))))
  (hb:b≠0)(k:TO q P n all rest ((d,.t (.v (.int k' (a.tmod b))))::env) H K):TO q P n all (⟨some d,.binOp .rem t x y t',ty,pos,aft,none⟩::rest) env H K:=
 TO.op hd (fun m ac h1 h2 h3=>⟨_,fun w' hw'=>by
  have ex:=(h3.val hx).v_eq
  have ey:=(h3.val hy).v_eq
  simp[execOp,ex,ey,eqGuard,binOp,Op.intDiv,hb],.t _ _ (.v _)⟩) k
theorem TO.not{t:TypeId}{x:Operand}{b:Bool}(hd:Nat.ble (d+1) n=true)(hx:env.val x=some (.t (.v (.bool b))))(k:TO q P n all rest ((d,.t (.v (.bool (!b))))::env) H K):
  TO q P n all (⟨some d,.unOp .not t x,ty,pos,aft,none⟩::rest) env H K:=
 TO.op hd (fun m ac h1 h2 h3=>⟨.bool (!b),fun w' hw'=>by simp[execOp,(h3.val hx).v_eq,Op.unary],.t _ _ (.v _)⟩) k
theorem TO.neg{t:TypeId}{x:Operand}{ik:IntKind}{b:Int}(hd:Nat.ble (d+1) n=true)(hx:env.val x=some (.t (.v (.int ik b))))(k:TO q P n all rest ((d,.t (.v (.int ik (ik.wrap (0-b)))))::env) H K):
  TO q P n all (⟨some d,.unOp .neg t x,ty,pos,aft,none⟩::rest) env H K:=
 TO.op hd (fun m ac h1 h2 h3=>⟨.int ik (ik.wrap (0-b)),fun w' hw'=>by simp[execOp,(h3.val hx).v_eq,Op.unary,Op.intArith],.t _ _ (.v _)⟩) k
theorem Fit.str{t:TypeId}{i:TyI}(h:Fit P t i)(hk:i.k= .str):P.underlying t=some .string:=by
 obtain⟨dd,ti,z,h1,h2,h3,_⟩:=h.ex
 rw[hk]at h3
 cases dd <;> simp[TK'.fits]at h3
 exact h1
theorem Fit.slice{t e:TypeId}{i:TyI}(h:Fit P t i)(hk:i.k= .slice e):P.underlying t=some (.slice e):=by
 obtain⟨dd,ti,z,h1,h2,h3,_⟩:=h.ex
 rw[hk]at h3
 cases dd <;> simp[TK'.fits]at h3
 subst h3
 exact h1
theorem Fit.info{t:TypeId}{i:TyI}(h:Fit P t i):∃ti,P.info? t=some ti/\ti.size=i.size/\ti.bytes=i.bytes:=by
 obtain⟨dd,ti,z,h1,h2,h3,h4,h5,_⟩:=h.ex
 exact⟨ti,h2,h4,h5⟩
theorem Fit.isAgg{t:TypeId}{i:TyI}(h:Fit P t i)(w:World):(isAgg t).run P w= .ok i.k.agg w:=by
 obtain⟨dd,ti,z,h1,h2,h3,h4,h5,_⟩:=h.ex
 simp only[Go.isAgg,underlying]
 simp[h1]
 cases hk:i.k <;> rw[hk]at h3 <;> cases dd <;> simp[TK'.fits]at h3 <;> simp[TK'.agg]
theorem Fit.sizeOf{t:TypeId}{i:TyI}(h:Fit P t i)(w:World):(sizeOf t).run P w= .ok i.size w:=by
 obtain⟨ti,h2,h4,h5⟩:=h.info
 simp[Go.sizeOf,typeInfo,h2,h4]
theorem Fit.struct{t:TypeId}{i:TyI}{fs:List (Nat×TypeId)}(h:Fit P t i)(hk:i.k= .struct fs):∃gs,P.underlying t=some (.struct gs)/\fs=gs.toList.map fun f=>(f.offset,f.type):=by
 obtain⟨dd,ti,z,h1,h2,h3,_⟩:=h.ex
 rw[hk]at h3
 cases dd <;> simp[TK'.fits]at h3
 exact⟨_,h1,h3⟩
theorem TRel.zdC{A:Foot}{w:World}{sz:Nat}{es:List T}{x:Value}(h:TRel A w (.sl sz es) x):∃ad cap,x= .slice ad es.length cap:=by
 cases h with
 | nil=>exact⟨none,0,rfl⟩
 | empty _ a=>exact⟨some a,0,rfl⟩
 | sl _ _ b off cap f=>exact⟨_,cap,rfl⟩
def SV.elems(sz:Nat):SV->Option (List T)
 | .t (.sl s es)=>bif Nat.beq s sz then some es else none
 | .sl s es _=>bif Nat.beq s sz then some es else none
 | .t (.v (.slice none 0 0))=>some []
 | _=>none
theorem zjr{α:Type}{a b:Nat}{x y:α}(h:(bif Nat.beq a b then some x else none)=some y):a=b/\x=y:=by
 cases hb:Nat.beq a b with
 | true=>rw[hb]at h;cases h;exact⟨qaS hb,rfl⟩
 | false=>rw[hb]at h;cases h
theorem SRel.elems{m:M}{v:SV}{x:Value}{sz:Nat}{es:List T}(h:SRel m v x)(hv:v.elems sz=some es):TRel m.A m.w (.sl sz es) x:=by
 unfold SV.elems at hv
 split at hv
 ·obtain⟨rfl,rfl⟩:=zjr hv;cases h with|t _ _ h=>exact h
 ·obtain⟨rfl,rfl⟩:=zjr hv;cases h with|sl _ _ _ _ _ h=>exact h
 ·cases hv;have:=h.v_eq;subst this;exact .nil sz
 ·cases hv
theorem TO.za0(hT:zaA P tab){t:TypeId}{i:TyI}{x:Operand}{l:Str}(hd:Nat.ble (d+1) n=true)(ht:tab.get t=some i)(hk:i.k= .str)(hx:env.val x=some (.t (.v (str l))))
  (k:TO q P n all rest ((d,.t (.v (.int .i64 l.length)))::env) H K):TO q P n all (⟨some d,.call { callee:=.builtin .len,args:=#[x],argTypes:=#[t] },ty,pos,aft,none⟩::rest) env H K:=
 TO.op hd (fun m ac h1 h2 h3=>⟨.int .i64 l.length,fun w' hw'=>by
  simp[execOp,resolve,invoke,builtin,Builtin.len_,underlying,(hT t i ht).str hk,(h3.val hx).v_eq,goInt];rfl,.t _ _ (.v _)⟩) k
theorem TO.zbt(hT:zaA P tab){t e:TypeId}{i ie:TyI}{x:Operand}{v:SV}{sz:Nat}{es:List T}(hd:Nat.ble (d+1) n=true)(ht:tab.get t=some i)(hk:i.k= .slice e)(he:tab.get e=some ie)(hs:ie.size=sz)(hx:env.val x=some v)
  (hv:v.elems sz=some es)(k:TO q P n all rest ((d,.t (.v (.int .i64 es.length)))::env) H K):TO q P n all (⟨some d,.call { callee:=.builtin .len,args:=#[x],argTypes:=#[t] },ty,pos,aft,none⟩::rest) env H K:=
 TO.op hd (fun m ac h1 h2 h3=>⟨.int .i64 es.length,fun w' hw'=>by
  obtain⟨ad,cap,hx'⟩:=((h3.val hx).elems hv).zdC
  simp[execOp,resolve,invoke,builtin,Builtin.len_,underlying,(hT t i ht).slice hk,hx',goInt],.t _ _ (.v _)⟩) k
theorem TO.zbs(hT:zaA P tab){t e:TypeId}{i:TyI}{x:Operand}{sz id off len:Nat}(hd:Nat.ble (d+1) n=true)(ht:tab.get t=some i)(hk:i.k= .slice e)(hx:env.val x=some (.ms sz id off len))
  (k:TO q P n all rest ((d,.t (.v (.int .i64 len)))::env) H K):TO q P n all (⟨some d,.call { callee:=.builtin .len,args:=#[x],argTypes:=#[t] },ty,pos,aft,none⟩::rest) env H K:=
 TO.op hd (fun m ac h1 h2 h3=>⟨.int .i64 len,fun w' hw'=>by
  have h:=h3.val hx
  generalize hy:ac.eval x=y at h
  cases h
  simp[execOp,resolve,invoke,builtin,Builtin.len_,underlying,(hT t i ht).slice hk,hy,goInt],.t _ _ (.v _)⟩) k
theorem TO.zax(hT:zaA P tab){t:TypeId}{i:TyI}{x y:Operand}{l:Str}{ik:IntKind}{j:Int}{c:UInt8}(hd:Nat.ble (d+1) n=true)(ht:tab.get t=some i)(hk:i.k= .str)(hx:env.val x=some (.t (.v (str l))))
  (hy:env.val y=some (.t (.v (.int ik j))))(h0:0≤j)(hc:l[j.toNat]?=some c)(k:TO q P n all rest ((d,.t (.v (.int .u8 c.toNat)))::env) H K):TO q P n all (⟨some d,.index t x y,ty,pos,aft,none⟩::rest) env H K:=
 TO.op hd (fun m ac h1 h2 h3=>⟨.int .u8 c.toNat,fun w' hw'=>by
  have hj:(⟨l.toArray⟩:ByteArray)[j.toNat]?=some c:=by
   rw[<-hc];show(l.toArray)[j.toNat]?=_;simp
  simp[execOp,Instr.index,asIntOf,underlying,(hT t i ht).str hk,(h3.val hx).v_eq,(h3.val hy).v_eq,h0,hj],.t _ _ (.v _)⟩) k
theorem TO.indexAddr(hT:zaA P tab){t e:TypeId}{i ie:TyI}{x y:Operand}{v:SV}{sz:Nat}{es:List T}{ik:IntKind}{j:Int}{el:T}(hd:Nat.ble (d+1) n=true)(ht:tab.get t=some i)(hk:i.k= .slice e)
  (he:tab.get e=some ie)(hs:ie.size=sz)(hx:env.val x=some v)(hv:v.elems sz=some es)(hy:env.val y=some (.t (.v (.int ik j))))(h0:0≤j)(hj:es[j.toNat]?=some el)
  (k:TO q P n all rest ((d,.cp el.cells 0)::env) H K):TO q P n all (⟨some d,.indexAddr t x y,ty,pos,aft,none⟩::rest) env H K:=
 TO.op hd (fun m ac h1 h2 h3=>by
  have h:=(h3.val hx).elems hv
  have hjl:j.toNat<es.length:=(qaa.1 hj).1
  generalize hz:ac.eval x=z at h
  cases h with
  | nil=>simp at hjl
  | empty=>simp at hjl
  | sl _ _ b off cap f hcap hsz hA hw ho hr=>
    refine⟨.pointer (some ⟨b,off+j.toNat*sz+0,none⟩),?_,?_⟩
    ·intro w' hw'
     have hlt:j<(es.length:Int):=by omega
     simp[execOp,Instr.indexAt,asIntOf,underlying,(hT t i ht).slice hk,(h3.val hy).v_eq,hz,h0,hlt,(hT e ie he).sizeOf,zbS,hs]
    ·have hl:=hsz _ _ hj
     refine .cp _ 0 b (off+j.toNat*sz) (fun q=>f (j.toNat*sz+q)) (fun q hq=>ho _ _ hjl (by omega)) (fun q hq=>?_) (fun q hq=>?_) (fun q c hc=>hr _ _ _ _ hj hc)
     ·rw[qaX];exact hA _ _ hjl (by omega)
     ·rw[qaX];exact hw _ _ hjl (by omega)) k
theorem TO.zeT(hT:zaA P tab){t e:TypeId}{i ie:TyI}{x y:Operand}{sz id off len:Nat}{ik:IntKind}{j:Int}(hd:Nat.ble (d+1) n=true)(ht:tab.get t=some i)(hk:i.k= .slice e)
  (he:tab.get e=some ie)(hs:ie.size=sz)(hx:env.val x=some (.ms sz id off len))(hy:env.val y=some (.t (.v (.int ik j))))(h0:0≤j)(hj:j<len)
  (k:TO q P n all rest ((d,.ref id (off+j.toNat*sz))::env) H K):TO q P n all (⟨some d,.indexAddr t x y,ty,pos,aft,none⟩::rest) env H K:=
 TO.op hd (fun m ac h1 h2 h3=>by
  have h:=h3.val hx
  generalize hz:ac.eval x=z at h
  cases h with
  | ms _ _ _ _ cap p hp hn hc hh=>
    refine⟨.pointer (some ⟨p.b,p.lo+(off+j.toNat*sz),none⟩),fun w' hw'=>?_,.ref _ _ p hp hn⟩
    simp[execOp,Instr.indexAt,asIntOf,underlying,(hT t i ht).slice hk,(h3.val hy).v_eq,hz,h0,hj,(hT e ie he).sizeOf,zbS,hs,qaX]) k
theorem zdZ(hT:zaA P tab){t:TypeId}{i it:TyI}{fs:List (Nat×TypeId)}{fi o:Nat}{ft:TypeId}(ht:tab.get t=some i)(hk:i.k= .struct fs)
  (hf:fs[fi]?=some (o,ft))(hft:tab.get ft=some it)(hz:it.size≠0)(b off:Nat)(w:World):
  (Instr.fieldAt t (.pointer (some ⟨b,off,none⟩)) fi).run P w= .ok (.pointer (some ⟨b,off+o,none⟩)) w:=by
 obtain⟨gs,hu,hfs⟩:=(hT t i ht).struct hk
 have hg:∃g,gs[fi]?=some g/\g.offset=o/\g.type=ft:=by
  exact zwca
 obtain⟨g,hg1,hg2,hg3⟩:=hg
 simp[Instr.fieldAt,underlying,hu,hg1,Instr.sureAddr,fieldPlace,hg2,hg3,(hT ft it hft).sizeOf,hz,zbS]
theorem TO.fieldAddr(hT:zaA P tab){t:TypeId}{i it:TyI}{fs:List (Nat×TypeId)}{x:Operand}{cs:List T}{off fi o:Nat}{ft:TypeId}(hd:Nat.ble (d+1) n=true)(ht:tab.get t=some i)(hk:i.k= .struct fs)
  (hf:fs[fi]?=some (o,ft))(hft:tab.get ft=some it)(hz:it.size≠0)(hx:env.val x=some (.cp cs off))(k:TO q P n all rest ((d,.cp cs (off+o))::env) H K):TO q P n all (⟨some d,.fieldAddr t x fi,ty,pos,aft,none⟩::rest) env H K:=
 TO.op hd (fun m ac h1 h2 h3=>by
  have h:=h3.val hx
  generalize hq:ac.eval x=z at h
  cases h with
  | cp _ _ b ob f ho hA hw hr=>
    refine⟨.pointer (some ⟨b,ob+(off+o),none⟩),fun w' hw'=>?_,.cp _ _ b ob f ho hA hw hr⟩
    have:=zdZ hT ht hk hf hft hz b (ob+off) w'
    simp[execOp,hq,this,qaX]) k
theorem TO.zam(hT:zaA P tab){t:TypeId}{i it:TyI}{fs:List (Nat×TypeId)}{x:Operand}{id off fi o:Nat}{ft:TypeId}(hd:Nat.ble (d+1) n=true)(ht:tab.get t=some i)(hk:i.k= .struct fs)
  (hf:fs[fi]?=some (o,ft))(hft:tab.get ft=some it)(hz:it.size≠0)(hx:env.val x=some (.ref id off))(k:TO q P n all rest ((d,.ref id (off+o))::env) H K):TO q P n all (⟨some d,.fieldAddr t x fi,ty,pos,aft,none⟩::rest) env H K:=
 TO.op hd (fun m ac h1 h2 h3=>by
  have h:=h3.val hx
  generalize hq:ac.eval x=z at h
  cases h with
  | ref _ _ p hp hn=>
    refine⟨.pointer (some ⟨p.b,p.lo+(off+o),none⟩),fun w' hw'=>?_,.ref _ _ p hp hn⟩
    have:=zdZ hT ht hk hf hft hz p.b (p.lo+off) w'
    simp[execOp,hq,this,qaX]) k
theorem zem(hT:zaA P tab){t:TypeId}{i:TyI}(ht:tab.get t=some i)(hk:i.k.agg=false){b o:Nat}{w:World}{x:Value}(hc:w.cell? ⟨b,o,none⟩=some x):
  (Instr.loadAt t (.pointer (some ⟨b,o,none⟩))).run P w= .ok x w:=by
 simp[Instr.loadAt,Instr.sureAddr,loadVar,(hT t i ht).isAgg,hk,hc]
theorem zeD(hT:zaA P tab){t:TypeId}{i:TyI}(ht:tab.get t=some i)(hk:i.k.agg=true){b o:Nat}{w:World}{f:Nat->Value}(hc:∀j,j<i.size->w.cell? ⟨b,o+j,none⟩=some (f j)):
  (Instr.loadAt t (.pointer (some ⟨b,o,none⟩))).run P w= .ok (.agg ((List.range i.size).map f).toArray) w:=by
 have:=run_loadCells (P:=P) w ⟨b,o,none⟩ i.size f (fun j hj=>by rw[zbS];exact hc j hj)
 simp[Instr.loadAt,Instr.sureAddr,loadVar,(hT t i ht).isAgg,hk,(hT t i ht).sizeOf,this]
theorem TO.load(hT:zaA P tab){t:TypeId}{i:TyI}{x:Operand}{cs:List T}{off:Nat}{c:T}(hd:Nat.ble (d+1) n=true)(ht:tab.get t=some i)(hk:i.k.agg=false)
  (hx:env.val x=some (.cp cs off))(hc:cs[off]?=some c)(k:TO q P n all rest ((d,.t c)::env) H K):TO q P n all (⟨some d,.load t x,ty,pos,aft,none⟩::rest) env H K:=
 TO.op hd (fun m ac h1 h2 h3=>by
  have h:=h3.val hx
  generalize hq:ac.eval x=z at h
  cases h with
  | cp _ _ b ob f ho hA hw hr=>
    have hl:=(qaa.1 hc).1
    refine⟨f off,fun w' hw'=>?_,.t _ _ (hr _ _ hc)⟩
    have hcc:w'.cell? ⟨b,ob+off,none⟩=some (f off):=by rw[hw'.cell (h2.inA _ _ (hA off hl))];exact hw off hl
    simp[execOp,hq,zem hT ht hk hcc]) k
theorem TO.zaQ(hT:zaA P tab){t:TypeId}{i:TyI}{x:Operand}{cs:List T}{off:Nat}(hd:Nat.ble (d+1) n=true)(ht:tab.get t=some i)(hk:i.k.agg=true)
  (hx:env.val x=some (.cp cs off))(hc:off+i.size≤cs.length)(k:TO q P n all rest ((d,.t (.ag ((cs.drop off).take i.size)))::env) H K):TO q P n all (⟨some d,.load t x,ty,pos,aft,none⟩::rest) env H K:=
 TO.op hd (fun m ac h1 h2 h3=>by
  have h:=h3.val hx
  generalize hq:ac.eval x=z at h
  cases h with
  | cp _ _ b ob f ho hA hw hr=>
    refine⟨.agg ((List.range i.size).map fun j=>f (off+j)).toArray,?_,.t _ _ (.ag _ _ (by simp;omega) (fun j y hy=>?_) fun j c y hc hy=>?_)⟩
    ·intro w' hw'
     have:=zeD hT ht hk (b:=b) (o:=ob+off) (w:=w') (f:=fun j=>f (off+j)) (fun j hj=>by rw[qaX,hw'.cell (h2.inA _ _ (hA (off+j) (by omega)))];exact hw (off+j) (by omega))
     simp[execOp,hq,this]
    ·simp at hy
     obtain⟨r,hr',rfl⟩:=hy
     have:=qay hr'
     simp at this
     exact ho _ (by omega)
    ·rw[qaK]at hc
     split at hc
     ·rename_i hj
      rw[qaV]at hc
      simp[hj]at hy
      subst hy
      exact hr _ _ hc
     ·cases hc) k
theorem TO.zaN(hT:zaA P tab){t:TypeId}{i:TyI}{x:Operand}{cs:List SV}{id off:Nat}{c:SV}(hd:Nat.ble (d+1) n=true)(ht:tab.get t=some i)(hk:i.k.agg=false)
  (hx:env.val x=some (.ref id off))(hH:H[id]?=some (.cells cs))(hc:cs[off]?=some c)(k:TO q P n all rest ((d,c)::env) H K):TO q P n all (⟨some d,.load t x,ty,pos,aft,none⟩::rest) env H K:=
 TO.op hd (fun m ac h1 h2 h3=>by
  have h:=h3.val hx
  generalize hq:ac.eval x=z at h
  cases h with
  | ref _ _ p hp hn=>
    have hb:=h2.blk id p (.cells cs) hp (by rw[h1];exact hH)
    obtain⟨y,hy1,_,hy2⟩:=hb.2.2 off c hc
    have hlt:=h2.inO id p _ hp (by rw[h1];exact hH) rfl (by have:=hb.1;have:=(qaa.1 hc).1;omega)
    exact⟨y,fun w' hw'=>by
     have hcc:w'.cell? ⟨p.b,p.lo+off,none⟩=some y:=by rw[hw'.cell hlt];exact hy1
     simp[execOp,hq,zem hT ht hk hcc],hy2⟩) k
theorem TO.zap(hT:zaA P tab){t:TypeId}{i:TyI}{x:Operand}{cs:List SV}{id off:Nat}(hd:Nat.ble (d+1) n=true)(ht:tab.get t=some i)(hk:i.k.agg=true)
  (hx:env.val x=some (.ref id off))(hH:H[id]?=some (.cells cs))(hc:off+i.size≤cs.length)(k:TO q P n all rest ((d,.ag ((cs.drop off).take i.size))::env) H K):TO q P n all (⟨some d,.load t x,ty,pos,aft,none⟩::rest) env H K:=
 TO.op hd (fun m ac h1 h2 h3=>by
  have h:=h3.val hx
  generalize hq:ac.eval x=z at h
  cases h with
  | ref _ _ p hp hn=>
    have hb:=h2.blk id p (.cells cs) hp (by rw[h1];exact hH)
    have hex:∀j,∃y,j<i.size->m.w.cell? ⟨p.b,p.lo+off+j,none⟩=some y/\y.oneCell'=true/\∀c,cs[off+j]?=some c->SRel m c y:=by
     intro j
     by_cases hj:j<i.size
     ·have hl:off+j<cs.length:=by omega
      obtain⟨y,hy1,hy0,hy2⟩:=hb.2.2 (off+j) cs[off+j] (qab hl)
      exact⟨y,fun _=>⟨by rw[qaX];exact hy1,hy0,fun c hc=>by rw[qab hl]at hc;cases hc;exact hy2⟩⟩
     ·exact⟨undef,fun h=>absurd h hj⟩
    obtain⟨f,hf⟩:=qbi hex
    refine⟨.agg ((List.range i.size).map f).toArray,?_,.ag _ _ (by simp;omega) (fun j y hy=>?_) fun j c y hc hy=>?_⟩
    ·intro w' hw'
     have hcc:∀j,j<i.size->w'.cell? ⟨p.b,p.lo+off+j,none⟩=some (f j):=fun j hj=>by
      have hlt:=h2.inO id p _ hp (by rw[h1];exact hH) rfl (by have:=hb.1;omega)
      rw[hw'.cell hlt];exact(hf j hj).1
     simp[execOp,hq,zeD hT ht hk hcc]
    ·exact zwdo
    ·rw[qaK]at hc
     split at hc
     ·rename_i hj
      rw[qaV]at hc
      simp[hj]at hy
      subst hy
      exact(hf j hj).2.2 c hc
     ·cases hc) k
def SV.zow:SV->Bool
 | .cp _ _| .ref _ _| .tref _ _ _ _=>true
 | _=>false
theorem TO.nilCheck{x:Operand}{v:SV}(hd:Nat.ble (d+1) n=true)(hx:env.val x=some v)(hv:v.zow=true)(k:TO q P n all rest ((d,v)::env) H K):TO q P n all (⟨some d,.nilCheck x,ty,pos,aft,none⟩::rest) env H K:=
 TO.op hd (fun m ac h1 h2 h3=>by
  have h:=h3.val hx
  refine⟨ac.eval x,fun w' hw'=>?_,h⟩
  generalize hq:ac.eval x=z at h
  cases v <;> simp[SV.zow]at hv <;> cases h <;> simp[execOp,hq]) k
theorem TO.zau{x:Operand}{f:FuncId}{cs:List SV}(hd:Nat.ble (d+1) n=true)(hx:env.val x=some (.fn f cs))(k:TO q P n all rest ((d,.fn f cs)::env) H K):TO q P n all (⟨some d,.nilCheck x,ty,pos,aft,none⟩::rest) env H K:=
 TO.op hd (fun m ac h1 h2 h3=>by
  have h:=h3.val hx
  refine⟨ac.eval x,fun w' hw'=>?_,h⟩
  generalize hq:ac.eval x=z at h
  cases h
  simp[execOp,hq]) k
theorem TO.extract{x:Operand}{vs:List SV}{i:Nat}{v:SV}(hd:Nat.ble (d+1) n=true)(hx:env.val x=some (.tup vs))(hv:vs[i]?=some v)(k:TO q P n all rest ((d,v)::env) H K):
  TO q P n all (⟨some d,.extract x i,ty,pos,aft,none⟩::rest) env H K:=
 TO.op hd (fun m ac h1 h2 h3=>by
  have h:=h3.val hx
  generalize hq:ac.eval x=z at h
  cases h with
  | tup _ arr hs hr=>
    have hl:=(qaa.1 hv).1
    have ha:arr[i]?=some (arr[i]'(by omega)):=qaj (by omega)
    exact⟨_,fun w' hw'=>by simp[execOp,hq,Instr.extract,ha],hr _ _ _ hv ha⟩) k
theorem ziZ(hT:zaA P tab){t:TypeId}{i:TyI}(ht:tab.get t=some i)(cs:Array Value)(off:Nat)(w:World)(hk:i.k.agg=false){x:Value}(hx:cs[off]?=some x):
  (part t cs off).run P w= .ok x w:=by
 simp[part,(hT t i ht).isAgg,hk,hx]
def SV.parts:SV->Option (List SV)
 | .ag cs=>some cs
 | .t (.ag cs)=>some (cs.map .t)
 | _=>none
theorem SRel.parts{m:M}{v:SV}{x:Value}{cs:List SV}(h:SRel m v x)(hv:v.parts=some cs):∃arr,x= .agg arr/\arr.size=cs.length/\(∀(i:Nat) y,arr[i]?=some y->y.oneCell'=true)/\∀(i:Nat) c y,cs[i]?=some c->arr[i]?=some y->SRel m c y:=by
 cases v with
 | ag l=>simp only[SV.parts,qaB]at hv;subst hv;cases h with|ag _ arr hs h1 hr=>exact⟨arr,rfl,hs,h1,hr⟩
 | t t=>
   cases t with
   | ag l=>
     simp only[SV.parts,qaB]at hv;subst hv
     cases h with
     | t _ _ h=>
       cases h with
       | ag _ arr hs h1 hr=>
         refine⟨arr,rfl,by simpa using hs,h1,fun i c y hc hy=>?_⟩
         rw[qar]at hc
         cases hq:l[i]? with
         | none=>rw[hq]at hc;cases hc
         | some u=>rw[hq]at hc;cases hc;exact .t _ _ (hr _ _ _ hq hy)
   | _=>simp[SV.parts]at hv
 | _=>simp[SV.parts]at hv
theorem zlA(hT:zaA P tab){t:TypeId}{i:TyI}{fs:List (Nat×TypeId)}{fi o:Nat}{ft:TypeId}(ht:tab.get t=some i)(hk:i.k= .struct fs)
  (hf:fs[fi]?=some (o,ft))(arr:Array Value)(w:World):(Instr.field t (.agg arr) fi).run P w=(part ft arr o).run P w:=by
 obtain⟨gs,hu,hfs⟩:=(hT t i ht).struct hk
 have hg:∃g,gs[fi]?=some g/\g.offset=o/\g.type=ft:=by
  exact zwca
 obtain⟨g,hg1,hg2,hg3⟩:=hg
 simp[Instr.field,underlying,hu,hg1,asAgg,hg2,hg3]
theorem TO.field(hT:zaA P tab){t:TypeId}{i it:TyI}{fs:List (Nat×TypeId)}{x:Operand}{v c:SV}{cs:List SV}{fi o:Nat}{ft:TypeId}(hd:Nat.ble (d+1) n=true)(ht:tab.get t=some i)(hk:i.k= .struct fs)
  (hf:fs[fi]?=some (o,ft))(hft:tab.get ft=some it)(ha:it.k.agg=false)(hx:env.val x=some v)(hv:v.parts=some cs)(hc:cs[o]?=some c)
  (k:TO q P n all rest ((d,c)::env) H K):TO q P n all (⟨some d,.field t x fi,ty,pos,aft,none⟩::rest) env H K:=
 TO.op hd (fun m ac h1 h2 h3=>by
  obtain⟨arr,hq,hs,_,hr⟩:=(h3.val hx).parts hv
  have hl:=(qaa.1 hc).1
  have hy:arr[o]?=some (arr[o]'(by omega)):=qaj (by omega)
  refine⟨_,fun w' hw'=>?_,hr _ _ _ hc hy⟩
  simp[execOp,hq,zlA hT ht hk hf,ziZ hT hft _ _ _ ha hy]) k
theorem zgh(q:IntKind)(a y:Nat)(code:BoundsCode)(w:World)(h:a≤y):(Instr.sliceBound (.int q (a:Int)) y code).run P w= .ok a w:=by
 have h1:(a:Int)≤(y:Int):=by omega
 simp[Instr.sliceBound,asIntOf,h1]
theorem zkg(isS:Bool)(len cap:Nat)(lo hi:Option Value)(a b:Nat)(w:World)(hlo:(lo=none/\a=0)\/∃q,lo=some (.int q (a:Int)))
  (hhi:(hi=none/\b=len)\/∃q,hi=some (.int q (b:Int)))(h1:a≤b)(h2:b≤cap):(Instr.sliceBounds isS len cap lo hi none).run P w= .ok (a,b,cap) w:=by
 rcases hhi with ⟨rfl,rfl⟩|⟨q,rfl⟩ <;> rcases hlo with ⟨rfl,rfl⟩|⟨q',rfl⟩ <;> simp[Instr.sliceBounds,zgh,h1,h2]
theorem ERel.zju{m:M}{ac:Act}(g:ERel m n env ac.tmps){lo:Option Operand}{dflt a:Nat}(h:(lo=none/\a=dflt)\/∃x q,lo=some x/\env.val x=some (.t (.v (.int q (a:Int))))):
  (lo.map ac.eval=none/\a=dflt)\/∃q,lo.map ac.eval=some (.int q (a:Int)):=by
 rcases h with ⟨rfl,rfl⟩|⟨x,q,rfl,hx⟩
 ·exact .inl ⟨rfl,rfl⟩
 ·exact .inr ⟨q,by simp[(g.val hx).v_eq]⟩
theorem zhg(hT:zaA P tab){t:TypeId}{i:TyI}(ht:tab.get t=some i)(hk:i.k= .str)(l:Str)(lo hi:Option Value)(a b:Nat)(w:World)(hlo:(lo=none/\a=0)\/∃q,lo=some (.int q (a:Int)))
  (hhi:(hi=none/\b=l.length)\/∃q,hi=some (.int q (b:Int)))(h1:a≤b)(h2:b≤l.length):(Instr.sliceAt t (str l) lo hi none).run P w= .ok (str ((l.take b).drop a)) w:=by
 have hb:=zkg (P:=P) false (⟨l.toArray⟩:ByteArray).size (⟨l.toArray⟩:ByteArray).size lo hi a b w hlo hhi h1 h2
 have he:(⟨l.toArray⟩:ByteArray).extract a b=⟨((l.take b).drop a).toArray⟩:=by
  apply ByteArray.ext
  simp[ByteArray.data_extract,List.take_drop,Nat.add_sub_cancel' h1]
 simp[Instr.sliceAt,Instr.slice,underlying,(hT t i ht).str hk,hb,he]
theorem TO.zfZ(hT:zaA P tab){t:TypeId}{i:TyI}{x:Operand}{lo hi:Option Operand}{l:Str}{a b:Nat}(hd:Nat.ble (d+1) n=true)(ht:tab.get t=some i)(hk:i.k= .str)
  (hx:env.val x=some (.t (.v (str l))))(hlo:(lo=none/\a=0)\/∃x q,lo=some x/\env.val x=some (.t (.v (.int q (a:Int)))))
  (hhi:(hi=none/\b=l.length)\/∃x q,hi=some x/\env.val x=some (.t (.v (.int q (b:Int)))))(h1:a≤b)(h2:b≤l.length)
  (k:TO q P n all rest ((d,.t (.v (str ((l.take b).drop a))))::env) H K):TO q P n all (⟨some d,.slice t x lo hi none,ty,pos,aft,none⟩::rest) env H K:=
 TO.op hd (fun m ac g1 g2 g3=>⟨str ((l.take b).drop a),fun w' hw'=>by
  have:=zhg hT ht hk l (lo.map ac.eval) (hi.map ac.eval) a b w' (g3.zju hlo) (g3.zju hhi) h1 h2
  simp[execOp,(g3.val hx).v_eq,this],.t _ _ (.v _)⟩) k
theorem TRel.part{A:Foot}{w:World}{sz:Nat}{es:List T}{ad:Option Addr}{len cap:Nat}(h:TRel A w (.sl sz es) (.slice ad len cap)){a b:Nat}(h1:a≤b)(h2:b≤es.length):
  TRel A w (.sl sz ((es.take b).drop a)) (.slice (if cap=a then ad else ad.map (·.add (a*sz))) (b-a) (cap-a)):=by
 cases h with
 | nil=>
   have:b=0:=by simpa using h2
   subst this
   have:a=0:=by omega
   subst this
   exact .nil sz
 | empty _ ad=>
   have:b=0:=by simpa using h2
   subst this
   have:a=0:=by omega
   subst this
   exact .empty sz ad
 | sl _ _ bb off _ f hcap hsz hA hw ho hr=>
   have hl:b-a=((es.take b).drop a).length:=by simp;omega
   have hget:∀(i:Nat) (e:T),((es.take b).drop a)[i]?=some e->es[a+i]?=some e:=by
    intro i e he
    rw[qaV,qaK]at he
    split at he
    ·exact he
    ·cases he
   by_cases hc:cap=a
   ·rw[if_pos hc,hl]
    have h0:(es.take b).drop a=[]:=by apply qaD;simp;omega
    rw[h0]
    exact .sl sz [] bb off _ f (by simp) (by simp) (by simp) (by simp) (by simp) (by simp)
   ·rw[if_neg hc,hl]
    simp only[qaY,zbS]
    refine .sl sz _ bb (off+a*sz) _ (fun j=>f (a*sz+j)) (by rw[<-hl];omega) (fun i e he=>hsz _ _ (hget i e he)) (fun i j hi hj=>?_) (fun i j hi hj=>?_) (fun i j hi hj=>?_) (fun i e j c he hc'=>?_)
    ·have:=hA (a+i) j (by rw[<-hl]at hi;omega) hj
     rw[qaP]at this
     rw[show off+a*sz+(i*sz+j)=off+(a*sz+i*sz+j) from by omega];exact this
    ·have:=hw (a+i) j (by rw[<-hl]at hi;omega) hj
     rw[qaP]at this
     rw[show off+a*sz+(i*sz+j)=off+(a*sz+i*sz+j) from by omega,this,qaX]
    ·have:=ho (a+i) j (by rw[<-hl]at hi;omega) hj
     rw[qaP]at this
     rw[<-qaX];exact this
    ·have:=hr (a+i) e j c (hget i e he) hc'
     rw[qaP]at this
     rw[<-qaX];exact this
theorem TO.makeFunc{f:FuncId}{caps:Array Operand}{vs:List SV}(hd:Nat.ble (d+1) n=true)(hv:caps.toList.mapM env.val=some vs)(k:TO q P n all rest ((d,.fn f vs)::env) H K):
  TO q P n all (⟨some d,.makeFunc (.func f) #[] caps,ty,pos,aft,none⟩::rest) env H K:=
 TO.op hd (fun m ac g1 g2 g3=>⟨.func (.func f) #[] (caps.map ac.eval),fun w' hw'=>by simp[execOp,Instr.makeFunc],by
  have hl:∀(l:List Operand) (vs:List SV),l.mapM env.val=some vs->l.length=vs.length/\∀(i:Nat) c,vs[i]?=some c->∃o,l[i]?=some o/\env.val o=some c:=by
   intro l
   induction l with
   | nil=>intro vs h;simp at h;subst h;simp
   | cons o r ih=>
     intro vs h
     simp only[qbI]at h
     cases ho:env.val o with
     | none=>rw[ho]at h;simp at h
     | some v=>
       rw[ho]at h
       cases hr:r.mapM env.val with
       | none=>rw[hr]at h;simp at h
       | some us=>
         rw[hr]at h
         simp at h
         subst h
         have:=ih us hr
         refine⟨by simp[this.1],fun i c hc=>?_⟩
         cases i with
         | zero=>simp at hc;subst hc;exact⟨o,rfl,ho⟩
         | succ i=>simpa using this.2 i c (by simpa using hc)
  have h:=hl _ _ hv
  refine .fn f vs _ (by simpa using h.1) fun i c y hc hy=>?_
  obtain⟨o,ho,hv⟩:=h.2 i c hc
  have ho':caps[i]?=some o:=by simpa using ho
  rw[qbV,ho']at hy
  simp at hy
  subst hy
  exact g3.val hv⟩) k
end rules
end Go.TL
