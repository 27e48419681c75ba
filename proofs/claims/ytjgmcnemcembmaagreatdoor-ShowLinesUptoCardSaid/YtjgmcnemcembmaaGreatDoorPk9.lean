import Derived.Test.YtjgmcnemcembmaaGreatDoorPk8
set_option linter.unusedSimpArgs false
set_option linter.unusedVariables false
namespace Go.TL
open Go
def byteSV(c:UInt8):T:=.v (.int .u8 c.toNat)
def bytesSV(l:Str):List T:=l.map byteSV
theorem bytesSV_append(a b:Str):bytesSV (a++b)=bytesSV a++bytesSV b:=List.map_append
theorem bytesSV_length(a:Str):(bytesSV a).length=a.length:=List.length_map _
theorem grow_row{m:M}(hm:HRel m)(e:TypeId):Step m ⟨m.A,m.β++[⟨0,0,0⟩],m.H++[.row e []],m.w⟩/\HRel ⟨m.A,m.β++[⟨0,0,0⟩],m.H++[.row e []],m.w⟩:=by
 refine grow hm (A':=m.A) rfl rfl rfl (Nat.le_refl _) (fun _ _=>rfl) (fun _ _ h=>h) (fun _ _ h=>.inl h) rfl ?_ ?_ (fun _ _ h h'=>absurd h h') ?_
 ·intro i p k h1 h2 h3
  cases i with
  | zero=>simp at h1;subst h1;right;simp
  | succ i=>simp at h1
 ·intro i j p q hij h1 h2
  cases i <;> cases j <;> simp at h1 h2 hij
 ·intro s i p k h1 h2
  cases i with
  | zero=>
    simp at h1 h2;subst h1;subst h2
    exact⟨⟨rfl,Nat.le_refl _,fun h=>absurd h (Nat.lt_irrefl _)⟩,fun o q1 q2=>by simp at q2,by simp⟩
  | succ i=>simp at h1
theorem nil_row{m:M}(hm:HRel m)(e:TypeId):SRel ⟨m.A,m.β++[⟨0,0,0⟩],m.H++[.row e []],m.w⟩ (.rw m.H.length 0) (.slice none 0 0):=by
 refine .rw _ _ _ ⟨0,0,0⟩ (by simp[<-hm.len]) ⟨_,_,_,rfl⟩ fun k hk=>?_
 have hk':tlOf (m.H++[Blk.row e []])[m.H.length]?=some k:=hk
 simp[tlOf]at hk'
 subst hk'
 exact⟨Nat.le_refl _,fun _=>⟨none,0,rfl,Nat.le_refl _,rfl,rfl,rfl⟩⟩
section rules
variable {P:Program}{n:Nat}{env:Env}{H:Heap}{K:TK}{all:Array Oper}{rest:List Oper}{tab:Tab}{q:Bool}
variable {d:Nat}{ty:TypeId}{pos:String}{aft:Array Edge}
theorem TR.row_cell{c:Code}(e:TypeId)(id j:Nat){cs:List SV}{H':Heap}(hH:H[id]?=some (.cells cs))(hi:cs[j]?=some (.t (.v (.slice none 0 0))))(hH':H.set id (.cells (cs.set j (.rw H.length 0)))++[.row e []]=H')
  (k:TR P n c env H' K):TR P n c env H K:=by
 intro φ m a h1 h2 h3 h4
 obtain⟨s,hm'⟩:=grow_row h2 e
 have hid:=(List.getElem?_eq_some_iff.1 hH).1
 have hjl:=(List.getElem?_eq_some_iff.1 hi).1
 have hH1:m.H[id]?=some (.cells cs):=by rw[h1];exact hH
 obtain⟨p,hp⟩:∃p,m.β[id]?=some p:=⟨_,List.getElem?_eq_getElem (by rw[h2.len,h1];exact hid)⟩
 obtain⟨b1,b2,b3⟩:=h2.blk id p _ hp hH1
 have hH2:(m.H++[Blk.row e []])[id]?=some (.cells cs):=by rw[List.getElem?_append_left (by rw[h1];exact hid)];exact hH1
 have hp2:(m.β++[(⟨0,0,0⟩:Place)])[id]?=some p:=by rw[List.getElem?_append_left (List.getElem?_eq_some_iff.1 hp).1];exact hp
 obtain⟨s2,hm2⟩:=upd (m:=⟨m.A,m.β++[⟨0,0,0⟩],m.H++[.row e []],m.w⟩) hm' (cs':=cs.set j (.rw m.H.length 0)) (w':=m.w) hp2 hH2 rfl rfl rfl rfl (fun _ _=>rfl) (fun _ _=>rfl) (fun _=>rfl) (fun _=>rfl) (fun _ h=>h) (by simpa using b1) (by omega) (fun q c hc=>by
  by_cases hq:q=j
  ·subst hq
   rw[List.getElem?_set_self hjl]at hc
   cases hc
   obtain⟨y,hy1,hy0,hy2⟩:=b3 q _ hi
   have:=hy2.v_eq
   subst this
   exact⟨_,hy1,rfl,nil_row h2 e⟩
  ·rw[List.getElem?_set_ne (by omega)]at hc
   obtain⟨y,hy1,hy0,hy2⟩:=b3 q c hc
   exact⟨y,hy1,hy0,s.srel h2 hy2⟩)
 refine wpr_mono (k φ ⟨m.A,m.β++[⟨0,0,0⟩],(m.H++[Blk.row e []]).set id (.cells (cs.set j (.rw m.H.length 0))),m.w⟩ a ?_ hm2 ((h3.step h2 s).step hm' s2) h4) fun _ _ _ hp=>hp.step (s.trans s2)
 rw[<-hH',<-h1]
 show(m.H++[Blk.row e []]).set id _=_
 rw[List.set_append_left _ _ (by rw[h1];exact hid)]
theorem TO.row_cell{ops:List Oper}(e:TypeId)(id j:Nat){cs:List SV}{H':Heap}(hH:H[id]?=some (.cells cs))(hi:cs[j]?=some (.t (.v (.slice none 0 0))))(hH':H.set id (.cells (cs.set j (.rw H.length 0)))++[.row e []]=H')
  (k:TO false P n all ops env H' K):TO false P n all ops env H K:=by
 intro φ m a h1 h2 h3 h4
 obtain⟨s,hm'⟩:=grow_row h2 e
 have hid:=(List.getElem?_eq_some_iff.1 hH).1
 have hjl:=(List.getElem?_eq_some_iff.1 hi).1
 have hH1:m.H[id]?=some (.cells cs):=by rw[h1];exact hH
 obtain⟨p,hp⟩:∃p,m.β[id]?=some p:=⟨_,List.getElem?_eq_getElem (by rw[h2.len,h1];exact hid)⟩
 obtain⟨b1,b2,b3⟩:=h2.blk id p _ hp hH1
 have hH2:(m.H++[Blk.row e []])[id]?=some (.cells cs):=by rw[List.getElem?_append_left (by rw[h1];exact hid)];exact hH1
 have hp2:(m.β++[(⟨0,0,0⟩:Place)])[id]?=some p:=by rw[List.getElem?_append_left (List.getElem?_eq_some_iff.1 hp).1];exact hp
 obtain⟨s2,hm2⟩:=upd (m:=⟨m.A,m.β++[⟨0,0,0⟩],m.H++[.row e []],m.w⟩) hm' (cs':=cs.set j (.rw m.H.length 0)) (w':=m.w) hp2 hH2 rfl rfl rfl rfl (fun _ _=>rfl) (fun _ _=>rfl) (fun _=>rfl) (fun _=>rfl) (fun _ h=>h) (by simpa using b1) (by omega) (fun q c hc=>by
  by_cases hq:q=j
  ·subst hq
   rw[List.getElem?_set_self hjl]at hc
   cases hc
   obtain⟨y,hy1,hy0,hy2⟩:=b3 q _ hi
   have:=hy2.v_eq
   subst this
   exact⟨_,hy1,rfl,nil_row h2 e⟩
  ·rw[List.getElem?_set_ne (by omega)]at hc
   obtain⟨y,hy1,hy0,hy2⟩:=b3 q c hc
   exact⟨y,hy1,hy0,s.srel h2 hy2⟩)
 refine TO.step' (m':=⟨m.A,m.β++[⟨0,0,0⟩],(m.H++[Blk.row e []]).set id (.cells (cs.set j (.rw m.H.length 0))),m.w⟩) (s.trans s2) (k φ ⟨m.A,m.β++[⟨0,0,0⟩],(m.H++[Blk.row e []]).set id (.cells (cs.set j (.rw m.H.length 0))),m.w⟩ a ?_ hm2 ((h3.step h2 s).step hm' s2) h4)
 rw[<-hH',<-h1]
 show(m.H++[Blk.row e []]).set id _=_
 rw[List.set_append_left _ _ (by rw[h1];exact hid)]
theorem TO.append_str(hT:TabOk P tab){t t' e:TypeId}{i i' ie:TyI}{id len:Nat}{l r:Str}{x y:Operand}{H':Heap}(hd:Nat.ble (d+1) n=true)(ht:tab.get t=some i)(hk:i.k= .slice e)(ht':tab.get t'=some i')(hk':i'.k= .str)
  (he:tab.get e=some ie)(hs:ie.size=1)(hx:env.val x=some (.rw id len))(hH:H[id]?=some (.row e (bytesSV l)))(hlen:len=l.length)(hy:env.val y=some (.t (.v (str r))))
  (hby:Nat.ble ie.bytes 4096=true)(hb1:l.length+r.length≤10000000000)(hH':H.set id (.row e (bytesSV (l++r)))=H')
  (k:TO false P n all rest ((d,.rw id (l++r).length)::env) H' K):TO false P n all (⟨some d,.call { callee:=.builtin .append,args:=#[x,y],argTypes:=#[t,t'] },ty,pos,aft,none⟩::rest) env H K:=
 TO.eff hd (fun m ac h1 h2 h3=>by
  have ey:=(h3.val hy).v_eq
  have h1':=Nat.le_of_ble_eq_true hby
  have h2':(l.length+r.length)*ie.bytes≤10000000000*4096:=Nat.mul_le_mul hb1 h1'
  obtain⟨z,m',r1,s,hm',hHm,hr⟩:=row_append_run (P:=P) hT h2 (ty:=ty) (y:=ac.eval y) (vs:=r.map fun c=>Value.int .u8 c.toNat) (ns:=bytesSV r) ht hk he hs (h3.val hx) (by rw[h1];exact hH) (by rw[hlen,bytesSV_length]) (by simp[bytesSV_length]) (.inl ((hT t' i' ht').str hk'))
   (fun w=>by rw[ey];simp[Builtin.lenOf];rfl) (fun w' hw'=>by
     rw[ey]
     simp only[Builtin.firstCells,List.length_map]
     have:((⟨r.toArray⟩:ByteArray).extract 0 r.length).data=r.toArray:=by simp[ByteArray.data_extract]
     rw[this];simp) (fun v hv=>by simp at hv;obtain⟨c,_,rfl⟩:=hv;rfl) (fun j c v hc hv=>by
     simp only[bytesSV,List.getElem?_map]at hc hv
     cases hj:r[j]? with
     | none=>rw[hj]at hc;cases hc
     | some t0=>rw[hj]at hc hv;cases hc;cases hv;exact .v _) (by simp[bytesSV_length];omega) (by simp[bytesSV_length];omega) (by omega)
  refine⟨z,m',by simp[execOp,resolve,invoke,builtin,r1],s,hm',by rw[hHm,h1,<-bytesSV_append];exact hH',?_⟩
  rw[<-bytesSV_append,bytesSV_length]at hr
  exact hr) k
theorem freeze_heap(w:World)(b k:Nat):(w.freeze ⟨b,0,none⟩ k).heap=if k=0 then w.heap else w.heap.modify b fun
   | .cells c elem (lo,hi)=>.cells c elem (if lo == hi then(0,0+k) else(min lo 0,max hi (0+k)))
   | o=>o:=by
 unfold World.freeze
 split <;> rfl
theorem row_dead{m:M}(hm:HRel m){id:Nat}{p:Place}{e:TypeId}{cs:List T}{k:Nat}{w':World}(hp:m.β[id]?=some p)(hH:m.H[id]?=some (.row e cs))(hos:w'.os=m.w.os)(htp:w'.tape=m.w.tape)(hou:w'.output=m.w.output)
  (hh:w'.heap=(m.w.freeze ⟨p.b,0,none⟩ k).heap)(hpos:k≤p.hi):
  Step m ⟨m.A,m.β.set id p,m.H.set id .dead,w'⟩/\HRel ⟨m.A,m.β.set id p,m.H.set id .dead,w'⟩:=by
 have hb:=hm.blk id p _ hp hH
 obtain⟨⟨b1,b2,b3⟩,b4,b5⟩:=hb
 rw[freeze_heap]at hh
 have hsize:w'.heap.size=m.w.heap.size:=by rw[hh];split <;> simp
 have hoth:∀b,b≠p.b\/k=0->w'.heap[b]?=m.w.heap[b]? :=by
  intro b hb
  rw[hh]
  split
  ·rfl
  ·rename_i h0
   rcases hb with hb|hb
   ·simp[Array.getElem?_modify,Ne.symm hb]
   ·exact absurd hb h0
 have hat:∀b,b=p.b->k≠0->∃c lo hi,m.w.heap[b]?=some (.cells c e (lo,hi))/\c.size=p.hi/\w'.heap[b]?=some (.cells c e (if lo == hi then(0,0+k) else(min lo 0,max hi (0+k)))):=by
  intro b hb h0
  subst hb
  have:=b3 (by omega)
  unfold World.shape? at this
  split at this
  ·rename_i c el fz hq
   obtain⟨lo,hi⟩:=fz
   simp at this
   obtain⟨rfl,h2⟩:=this
   refine⟨c,lo,hi,hq,h2,?_⟩
   rw[hh,if_neg h0]
   simp[Array.getElem?_modify,hq]
  ·cases this
 have hcells:∀b o,w'.cell? ⟨b,o,none⟩=m.w.cell? ⟨b,o,none⟩:=by
  intro b o
  by_cases hb:b≠p.b\/k=0
  ·simp[World.cell?,hoth b hb]
  ·obtain⟨c,lo,hi,g1,_,g2⟩:=hat b (by omega) (by omega)
   simp[World.cell?,g1,g2]
 have hshape:∀b,w'.shape? b=m.w.shape? b:=by
  intro b
  by_cases hb:b≠p.b\/k=0
  ·simp[World.shape?,hoth b hb]
  ·obtain⟨c,lo,hi,g1,_,g2⟩:=hat b (by omega) (by omega)
   simp[World.shape?,g1,g2]
 have hfr:∀b o,¬(b=p.b/\p.lo≤o/\o<p.hi)->(m.w.cell? ⟨b,o,none⟩).isSome=true->w'.frozen? ⟨b,o,none⟩=m.w.frozen? ⟨b,o,none⟩:=by
  intro b o hn hc
  by_cases hb:b≠p.b\/k=0
  ·simp[World.frozen?,hoth b hb]
  ·obtain⟨c,lo,hi,g1,g3,g2⟩:=hat b (by omega) (by omega)
   simp[World.cell?,g1]at hc
   omega
 exact mv_step hm (k1:=.dead) (p':=p) (A':=m.A) hp hH rfl hos htp hou (by rw[hsize];exact Nat.le_refl _) (fun b o _ _=>hcells b o) (fun b o _ h hc=>hfr b o h hc) (fun b _ h=>hoth b (by omega)) (fun b o _ h=>by rw[hcells];exact h) (fun b s h=>by rw[hshape];exact h) (fun _ _ h=>h) (fun _ _ h=>.inl h) (fun h=>by cases h) (fun h=>by cases h) (fun o q1 q2=>(b4 o q1 q2).1) (fun n' h=>by cases h) (fun _=>trivial)
end rules
section rules
variable {P:Program}{n:Nat}{env:Env}{H:Heap}{K:TK}{all:Array Oper}{rest:List Oper}{tab:Tab}{q:Bool}
variable {d:Nat}{ty:TypeId}{pos:String}{aft:Array Edge}
theorem TO.ssl2(hT:TabOk P tab){t e:TypeId}{i ie:TyI}{x y z:Operand}{v:SV}{sz:Nat}{es:List T}{a b:Nat}{ik ik':IntKind}(hd:Nat.ble (d+1) n=true)(ht:tab.get t=some i)(hk:i.k= .slice e)(he:tab.get e=some ie)(hs:ie.size=sz)
  (hx:env.val x=some v)(hv:v.elems sz=some es)(hy:env.val y=some (.t (.v (.int ik (a:Int)))))(hz:env.val z=some (.t (.v (.int ik' (b:Int)))))(h1:a≤b)(h2:b≤es.length)
  (k:TO q P n all rest ((d,.t (.sl sz ((es.take b).drop a)))::env) H K):TO q P n all (⟨some d,.slice t x (some y) (some z) none,ty,pos,aft,none⟩::rest) env H K:=
 TO.slice_sl hT hd ht hk he hs hx hv (.inr ⟨y,ik,rfl,hy⟩) (.inr ⟨z,ik',rfl,hz⟩) h1 h2 k
theorem TO.ssl_lo(hT:TabOk P tab){t e:TypeId}{i ie:TyI}{x y:Operand}{v:SV}{sz:Nat}{es:List T}{a:Nat}{ik:IntKind}(hd:Nat.ble (d+1) n=true)(ht:tab.get t=some i)(hk:i.k= .slice e)(he:tab.get e=some ie)(hs:ie.size=sz)
  (hx:env.val x=some v)(hv:v.elems sz=some es)(hy:env.val y=some (.t (.v (.int ik (a:Int)))))(h1:a≤es.length)
  (k:TO q P n all rest ((d,.t (.sl sz (es.drop a)))::env) H K):TO q P n all (⟨some d,.slice t x (some y) none none,ty,pos,aft,none⟩::rest) env H K:=
 TO.slice_sl hT hd ht hk he hs hx hv (.inr ⟨y,ik,rfl,hy⟩) (.inl ⟨rfl,rfl⟩) h1 (Nat.le_refl _) (by rw[List.take_length];exact k)
theorem TO.ssl_hi(hT:TabOk P tab){t e:TypeId}{i ie:TyI}{x z:Operand}{v:SV}{sz:Nat}{es:List T}{b:Nat}{ik:IntKind}(hd:Nat.ble (d+1) n=true)(ht:tab.get t=some i)(hk:i.k= .slice e)(he:tab.get e=some ie)(hs:ie.size=sz)
  (hx:env.val x=some v)(hv:v.elems sz=some es)(hz:env.val z=some (.t (.v (.int ik (b:Int)))))(h2:b≤es.length)
  (k:TO q P n all rest ((d,.t (.sl sz (es.take b)))::env) H K):TO q P n all (⟨some d,.slice t x none (some z) none,ty,pos,aft,none⟩::rest) env H K:=
 TO.slice_sl hT hd ht hk he hs hx hv (.inl ⟨rfl,rfl⟩) (.inr ⟨z,ik,rfl,hz⟩) (Nat.zero_le _) h2 (by simpa using k)
theorem TO.convert_as{t t':TypeId}{x:Operand}{ik ik':IntKind}{a z:Int}(hd:Nat.ble (d+1) n=true)(hu:(P.underlying t).isSome=true)(hu':P.underlying t'=some (.int ik'))(hx:env.val x=some (.t (.v (.int ik a))))(hz:ik'.wrap a=z)
  (k:TO q P n all rest ((d,.t (.v (.int ik' z)))::env) H K):TO q P n all (⟨some d,.convert t t' x,ty,pos,aft,none⟩::rest) env H K:=
 TO.convert_int hd hu hu' hx (by rw[hz];exact k)
end rules
def lone':Obj->Bool
 | .cells .. =>false
 | _=>true
theorem cell_of_obj{w:World}{b:Nat}{x:Obj}(h:w.heap[b]?=some x)(hx:lone' x=true)(o:Nat):w.cell? ⟨b,o,none⟩=none:=by
 cases x <;> first|(simp[World.cell?,h];done)|(simp[lone']at hx)
theorem shape_of_obj{w:World}{b:Nat}{x:Obj}(h:w.heap[b]?=some x)(hx:lone' x=true):w.shape? b=none:=by
 cases x <;> first|(simp[World.shape?,h];done)|(simp[lone']at hx)
theorem upd_obj{m:M}(hm:HRel m){id:Nat}{p:Place}{k k':Blk}{x x':Obj}(hp:m.β[id]?=some p)(hH:m.H[id]?=some k)(hk:k.obj=true)(hk':k'.obj=true)(hb:m.w.heap[p.b]?=some x)(hx:lone' x=true)(hx':lone' x'=true)
  (hl:∀L,x= .loop L->∃L',x'= .loop L')(hnew:Step m ⟨m.A,m.β,m.H.set id k',m.w.putObj p.b x'⟩->BlkOk ⟨m.A,m.β,m.H.set id k',m.w.putObj p.b x'⟩ p k'):
  Step m ⟨m.A,m.β,m.H.set id k',m.w.putObj p.b x'⟩/\HRel ⟨m.A,m.β,m.H.set id k',m.w.putObj p.b x'⟩:=by
 have hid:=(List.getElem?_eq_some_iff.1 hH).1
 have hlt:=(Array.getElem?_eq_some_iff.1 hb).1
 obtain⟨e1,e2,_⟩:=(hm.blk id p k hp hH).obj_place hk
 have hsame:(m.w.putObj p.b x').heap[p.b]?=some x':=World.putObj_heap_same hlt
 have hoth:∀b,b≠p.b->(m.w.putObj p.b x').heap[b]?=m.w.heap[b]? :=fun b h=>World.putObj_heap_other h
 have cells:∀b o,(m.w.putObj p.b x').cell? ⟨b,o,none⟩=m.w.cell? ⟨b,o,none⟩:=by
  intro b o
  by_cases h:b=p.b
  ·subst h;rw[cell_of_obj hb hx,cell_of_obj hsame hx']
  ·exact cell_of_block (hoth b h)
 have live:∀ {k:Blk},k.obj=true->k.live=true:=by intro k h;cases k <;> simp[Blk.obj]at h <;> rfl
 have notl:∀ {k:Blk},k.obj=true->∀n,tlOf (some k)≠some n:=by intro k h n;cases k <;> simp[Blk.obj]at h <;> simp[tlOf]
 have pick:∀(i:Nat) q c,m.β[i]?=some q->(m.H.set id k')[i]?=some c->(i=id/\q=p/\c=k')\/(i≠id/\m.H[i]?=some c):=by
  intro i q c h1 h2
  by_cases hi:i=id
  ·subst hi
   rw[List.getElem?_set_self hid]at h2
   rw[hp]at h1
   cases h1;cases h2
   exact .inl ⟨rfl,rfl,rfl⟩
  ·rw[List.getElem?_set_ne (by omega)]at h2
   exact .inr ⟨hi,h2⟩
 have own:∀b o,Own ⟨m.A,m.β,m.H.set id k',m.w.putObj p.b x'⟩ b o ↔ Own m b o:=by
  intro b o
  constructor
  ·rintro⟨i,q,c,h1,h2,h3,h4⟩
   rcases pick i q c h1 h2 with ⟨rfl,rfl,rfl⟩|⟨_,g⟩
   ·exact⟨i,q,k,hp,hH,live hk,h4⟩
   ·exact⟨i,q,c,h1,g,h3,h4⟩
  ·rintro⟨i,q,c,h1,h2,h3,h4⟩
   by_cases hi:i=id
   ·subst hi
    exact⟨i,q,k',h1,by show(m.H.set i k')[i]?=_;rw[List.getElem?_set_self hid],live hk',h4⟩
   ·exact⟨i,q,c,h1,by show(m.H.set id k')[i]?=_;rw[List.getElem?_set_ne (by omega)];exact h2,h3,h4⟩
 have ownp:Own m p.b 0:=⟨id,p,k,hp,hH,live hk,rfl,by omega,by omega⟩
 have s:Step m ⟨m.A,m.β,m.H.set id k',m.w.putObj p.b x'⟩:=by
  refine⟨rfl,rfl,rfl,by show _≤(m.w.putObj p.b x').heap.size;rw[World.putObj_size];exact Nat.le_refl _,fun _ _ h=>h,fun _ _ h=>.inl h,fun b o h=>.inl ((own b o).1 h),fun b o _ _=>cells b o,fun b o _ _ hc=>?_,fun b _ hn=>?_,fun b sh hs=>?_,fun b L hL=>?_,fun b o _ h=>by show(World.cell? _ _).isSome=true;rw[cells];exact h,fun i q hq=>⟨q,hq,?_⟩⟩
  ·by_cases h:b=p.b
   ·subst h;rw[cell_of_obj hb hx]at hc;cases hc
   ·exact frozen_of_block (hoth b h)
  ·exact hoth b fun h=>by subst h;exact hn 0 ownp
  ·by_cases h:b=p.b
   ·subst h;rw[shape_of_obj hb hx]at hs;cases hs
   ·show(m.w.putObj p.b x').shape? b=_;rw[shape_of_block (hoth b h)];exact hs
  ·by_cases h:b=p.b
   ·subst h
    rw[hb]at hL;cases hL
    obtain⟨L',rfl⟩:=hl L rfl
    exact⟨L',hsame⟩
   ·exact⟨L,(hoth b h).trans hL⟩
  ·by_cases hi:i=id
   ·subst hi
    show IdStep m.H[i]? (m.H.set i k')[i]? q q
    rw[hH,List.getElem?_set_self hid]
    unfold IdStep
    split
    ·rename_i n e;exact absurd e (notl hk n)
    ·exact⟨rfl,notl hk'⟩
   ·refine idStep_same ?_
    show(m.H.set id k')[i]?=m.H[i]?
    rw[List.getElem?_set_ne (by omega)]
 refine⟨s,by simpa using hm.len,fun i q c h1 h2=>?_,fun i j q r c l hij h1 h2 h3 h4 hc hl=>?_,fun b o h hn=>hm.still b o h ((own b o).1 hn),fun b o h=>by show b<(m.w.putObj p.b x').heap.size;rw[World.putObj_size];exact hm.inA b o h,fun i q c h1 h2 hc hq=>?_,s.glob hm⟩
 ·rcases pick i q c h1 h2 with ⟨rfl,rfl,rfl⟩|⟨hi,g⟩
  ·exact hnew s
  ·have hbq:=hm.blk i q c h1 g
   cases hlv:c.live with
   | false=>cases c <;> simp[Blk.live]at hlv;trivial
   | true=>
     have hap:=hm.apart i id q p c _ hi h1 g hp hH hlv (live hk)
     refine hbq.step hm s (fun o ho ho'=>⟨cells _ _,fun hc=>?_⟩) (fun e=>?_)
     ·by_cases h:q.b=p.b
      ·rw[h,cell_of_obj hb hx]at hc;cases hc
      ·exact frozen_of_block (hoth _ h)
     ·refine hoth _ fun h=>?_
      obtain⟨f1,f2,_⟩:=hbq.obj_place e
      have:=hap h
      omega
 ·have back:∀(i:Nat) q c,m.β[i]?=some q->(m.H.set id k')[i]?=some c->c.live=true->∃c',m.H[i]?=some c'/\c'.live=true:=by
   intro i q c h1 h2 h3
   rcases pick i q c h1 h2 with ⟨rfl,_,_⟩|⟨_,g⟩
   ·exact⟨k,hH,live hk⟩
   ·exact⟨c,g,h3⟩
  obtain⟨c1,g1,g2⟩:=back i q c h1 h2 hc
  obtain⟨c2,g3,g4⟩:=back j r l h3 h4 hl
  exact hm.apart i j q r c1 c2 hij h1 g1 h3 g3 g2 g4
 ·show q.b<(m.w.putObj p.b x').heap.size
  rw[World.putObj_size]
  rcases pick i q c h1 h2 with ⟨rfl,rfl,rfl⟩|⟨_,g⟩
  ·exact hlt
  ·exact hm.inO i q c h1 g hc hq
theorem loop_get{m:M}(hm:HRel m){id fn n:Nat}{st:LoopState}{pe:Option Code}{env:Env}{ps:Array Tmp}{aas bo:Code}(hH:m.H[id]?=some (.loop fn st pe n env ps aas bo)):
  ∃p L,m.β[id]?=some p/\p.lo=0/\p.hi=1/\m.w.heap[p.b]?=some (.loop L)/\L.fn=fn/\L.state=st/\L.pending=pe/\L.params=ps/\L.assign=aas/\L.body=bo/\ERel m n env L.tmps:=by
 have hid:=(List.getElem?_eq_some_iff.1 hH).1
 obtain⟨p,hp⟩:∃p,m.β[id]?=some p:=⟨_,List.getElem?_eq_getElem (by rw[hm.len];exact hid)⟩
 obtain⟨h1,h2,L,h3,⟨h4,h5,h6,h7,h8,h9⟩,h10⟩:=hm.blk id p _ hp hH
 exact⟨p,L,hp,h1,h2,h3,h4,h5,h6,h7,h8,h9,h10⟩
theorem loop_set{m:M}(hm:HRel m){id fn n:Nat}{st st':LoopState}{pe pe':Option Code}{env:Env}{ps:Array Tmp}{aas bo:Code}(hH:m.H[id]?=some (.loop fn st pe n env ps aas bo)){p:Place}{L:Loop}(hp:m.β[id]?=some p)(hL:m.w.heap[p.b]?=some (.loop L)):
  Step m ⟨m.A,m.β,m.H.set id (.loop fn st' pe' n env ps aas bo),m.w.putObj p.b (.loop { L with state:=st',pending:=pe' })⟩/\HRel ⟨m.A,m.β,m.H.set id (.loop fn st' pe' n env ps aas bo),m.w.putObj p.b (.loop { L with state:=st',pending:=pe' })⟩:=by
 obtain⟨h1,h2,L',h3,⟨h4,h5,h6,h7,h8,h9⟩,h10⟩:=hm.blk id p _ hp hH
 have:L'=L:=by rw[hL]at h3;cases h3;rfl
 subst this
 refine upd_obj hm hp hH rfl rfl hL rfl rfl (fun _ _=>⟨_,rfl⟩) fun s=>⟨h1,h2,_,World.putObj_heap_same (Array.getElem?_eq_some_iff.1 hL).1,⟨h4,rfl,rfl,h7,h8,h9⟩,h10.step hm s⟩
def YSound(P:Program)(id:Nat)(arg:SV)(H:Heap)(R:Res->Heap->Prop):Prop:=
 ∀(m:M) (x:Value) (r:Option Nat) (p:Place),m.H=H->HRel m->SRel m arg x->m.β[id]?=some p->
  ∃fn tmps assign body,(Instr.yield p.b #[x]).run P m.w= .ok (.round p.b fn tmps assign body) m.w/\
   RoundIn (Fr r) 0 P p.b fn tmps assign body m.w fun e w'=>∃(m':M) (res:Res),m'.w=w'/\Step m m'/\HRel m'/\ResRel m' res e/\R res m'.H
def EndR(N id:Nat)(R:Res->Heap->Prop):TK
 | .normal,_,H=>∃fn st pe n env ps aas bo,H[id]?=some (.loop fn st pe n env ps aas bo)/\N≤H.length/\blksUnder N ((H.set id (.loop fn .ready none n env ps aas bo)).take N)=true/\R (.ret (.b true)) ((H.set id (.loop fn .ready none n env ps aas bo)).take N)
 | .ret,_,H=>∃fn st pe n env ps aas bo,H[id]?=some (.loop fn st pe n env ps aas bo)/\N≤H.length/\blksUnder N ((H.set id (.loop fn .done (some .ret) n env ps aas bo)).take N)=true/\R (.ret (.b false)) ((H.set id (.loop fn .done (some .ret) n env ps aas bo)).take N)
 | .exit i,_,H=>∃fn st pe n env ps aas bo,H[id]?=some (.loop fn st pe n env ps aas bo)/\N≤H.length/\blksUnder N ((H.set id (.loop fn .done (some (.exit i)) n env ps aas bo)).take N)=true/\R (.ret (.b false)) ((H.set id (.loop fn .done (some (.exit i)) n env ps aas bo)).take N)
 | .panic v,_,H=>v.under N=true/\N≤H.length/\blksUnder N (H.take N)=true/\R (.panic v) (H.take N)
def AsgR(P:Program)(n N id:Nat)(body:Code)(R:Res->Heap->Prop):TK
 | .normal,env,H=>∃fn pe n' env' ps aas bo,H[id]?=some (.loop fn .ready pe n' env' ps aas bo)/\TR P n body env (H.set id (.loop fn .busy pe n' env' ps aas bo)) (EndR N id R)
 | _,_,_=>False
theorem YSound.of{P:Program}{id fn n t:Nat}{pe:Option Code}{env:Env}{assign body:Code}{arg:SV}{H:Heap}{R:Res->Heap->Prop}(hfn:(P.funcs[fn]?).isSome=true)(hH:H[id]?=some (.loop fn .ready pe n env #[t] assign body))(ht:Nat.ble (t+1) n=true)
  (h:TR P n assign ((t,arg)::env) H (AsgR P n H.length id body R)):YSound P id arg H R:=by
 intro m x r p h1 h2 h3 hp
 subst h1
 obtain⟨p',L,hp',e1,e2,hL,f1,f2,f3,f4,f5,f6,hE⟩:=loop_get h2 hH
 have:p'=p:=by rw[hp]at hp';cases hp';rfl
 subst this
 refine⟨_,_,_,_,run_yield (args:=#[x]) hL (by simp[f4]),?_⟩
 rw[f1,f4,f5,f6]
 have htm:((#[t].zip #[x]).foldl (fun tmps (t,a)=>tmps.setIfInBounds t a) L.tmps)=L.tmps.setIfInBounds t x:=by simp
 rw[htm]
 have hE0:ERel m n ((t,arg)::env) (L.tmps.setIfInBounds t x):=by
  have:=ERel.put (a:={ tmps:=L.tmps,defers:=[] }) (v:=arg) (x:=x) t hE (Nat.le_of_ble_eq_true ht) h3
  simpa [Act.put]using this
 refine⟨trivial,fun c cs hroom=>?_⟩
 let b:Frame:={ (default:Frame)with fn:=fn,kind:=.normal,roundOf:=some p'.b }
 have hb0:Frame.round p'.b fn (L.tmps.setIfInBounds t x) assign body .normal=b.atR { tmps:=L.tmps.setIfInBounds t x,defers:=[] } [.code assign,.beginRound,.code body]:=by
  simp[Frame.round,Frame.atR,b]
 have wide:∀ {m m':Machine},StepsIn (fun _=>True) P m m'->StepsIn (Machine.fenced P (Fr r)) P m m':=fun h=>stepsIn_wide.2 (steps_iff.2 h)
 have hD:DefOk ⟨some p'.b,0,[]⟩ m.w []:=⟨⟨[],rfl,fun _=>rfl,List.nodup_nil,by simp⟩,Nat.zero_le _,fun l hl=>by cases hl;exact⟨L,hL⟩⟩
 obtain⟨e,a1,w1,⟨m1,env1,te1,rfl,s1,hm1,he1,hd1,hx1,hK1⟩,harr⟩:=h ⟨some p'.b,0,[]⟩ m { tmps:=L.tmps.setIfInBounds t x,defers:=[] } rfl h2 hE0 hD b [.beginRound,.code body] (c::cs) rfl hfn
 rw[<-hb0]at harr
 cases te1 with
 | normal=>
   cases e <;> simp[ExRel]at hx1
   obtain⟨fn1,pe1,n1,env1',ps1,as1,bo1,hH1,hbody⟩:=hK1
   obtain⟨p1,L1,hp1,_,_,hL1,_,g2,_⟩:=loop_get hm1 hH1
   have hp1':p1=p':=by
    obtain⟨q,hq,hi⟩:=s1.ids id p' hp
    rw[hH]at hi
    have:=(hi.noTail (by intro n;simp[tlOf])).1
    rw[hp1]at hq;cases hq;exact this
   subst hp1'
   obtain⟨s2,hm2⟩:=loop_set (st':=.busy) (pe':=L1.pending) hm1 hH1 hp1 hL1
   have hbr:=run_beginRound (P:=P) hL1 g2
   have s3:StepsIn (fun _=>True) P (lone (b.atR a1 [.beginRound,.code body]) (c::cs) m1.w) (lone (b.atR a1 [.code body]) (c::cs) (m1.w.putObj p1.b (.loop { L1 with state:=.busy }))):=.one trivial (stepR_beginRound rfl hbr)
   have hpe:L1.pending=pe1:=by
    obtain⟨_,_,L2,q3,⟨_,_,q6,_⟩,_⟩:=hm1.blk id p1 _ hp1 hH1
    rw[hL1]at q3;cases q3;exact q6
   have hbody':=hbody ⟨some p1.b,0,[]⟩ ⟨m1.A,m1.β,m1.H.set id (.loop fn1 .busy pe1 n1 env1' ps1 as1 bo1),m1.w.putObj p1.b (.loop { L1 with state:=.busy,pending:=L1.pending })⟩ a1 rfl (hpe ▸ hm2) (he1.step hm1 (hpe ▸ s2)) (hd1.step hm1 (hpe ▸ s2))
   obtain⟨e2,a2,w2,⟨m3,env3,te3,rfl,s4,hm3,he3,hd3,hx3,hK3⟩,harr2⟩:=hbody' b [] (c::cs) rfl hfn
   have st:Step m m3:=(s1.trans (hpe ▸ s2)).trans s4
   have pre:StepsIn (fun _=>True) P (lone (Frame.round p1.b fn (L.tmps.setIfInBounds t x) assign body .normal) (c::cs) m.w) (lone (b.atR a1 [.code body]) (c::cs) (m1.w.putObj p1.b (.loop { L1 with state:=.busy }))):=StepsIn.trans harr s3
   have fin:∀(jump:Option Code) (st':LoopState),st'=(if jump.isNone then .ready else .done)->(∃fn st pe n env ps aas bo,m3.H[id]?=some (.loop fn st pe n env ps aas bo)/\m.H.length≤m3.H.length/\blksUnder m.H.length ((m3.H.set id (.loop fn st' jump n env ps aas bo)).take m.H.length)=true/\R (.ret (.b jump.isNone)) ((m3.H.set id (.loop fn st' jump n env ps aas bo)).take m.H.length))->
     ∃w',(Instr.endRound p1.b jump).run P m3.w= .ok (.bool jump.isNone) w'/\∃(m':M) (res:Res),m'.w=w'/\Step m m'/\HRel m'/\ResRel m' res (.returned (.bool jump.isNone))/\R res m'.H:=by
    rintro jump st' rfl ⟨fn4,st4,pe4,n4,env4,ps4,as4,bo4,hH4,hN4,hb4,hR4⟩
    obtain⟨p4,L4,hp4,_,_,hL4,_⟩:=loop_get hm3 hH4
    have hp4':p4=p1:=by
     obtain⟨q,hq,hi⟩:=st.ids id p1 hp
     rw[hH]at hi
     have:=(hi.noTail (by intro n;simp[tlOf])).1
     rw[hp4]at hq;cases hq;exact this
    subst hp4'
    obtain⟨s5,hm5⟩:=loop_set (st':=if jump.isNone then .ready else .done) (pe':=jump) hm3 hH4 hp4 hL4
    obtain⟨c1,c2,_⟩:=cut_ok hm5 (st.trans s5) (k:=m.H.length) (by simpa using hN4) (by rw[h2.len];exact Nat.le_refl _) hb4
    exact⟨_,run_endRound jump hL4,_,.ret (.b jump.isNone),rfl,c1,c2,.t _ _ (.v _),hR4⟩
   cases te3 with
   | normal=>
     cases e2 <;> simp[ExRel]at hx3
     obtain⟨w',hend,hR⟩:=fin none _ rfl hK3
     exact⟨.returned (.bool true),w',hR,wide (pre.trans (StepsIn.trans harr2 (.one trivial (stepR_round_end rfl rfl hend))))⟩
   | ret=>
     cases e2 <;> simp[ExRel]at hx3
     obtain⟨w',hend,hR⟩:=fin (some .ret) _ rfl hK3
     obtain⟨k1,hs⟩:=harr2.2 rfl
     exact⟨.returned (.bool false),w',hR,wide (pre.trans (StepsIn.trans hs (.one trivial (stepR_round_ret rfl rfl hend))))⟩
   | exit i=>
     cases e2 <;> simp[ExRel]at hx3
     subst hx3
     obtain⟨w',hend,hR⟩:=fin (some (.exit i)) _ rfl hK3
     obtain⟨k1,hk,hs⟩:=harr2.2 rfl rfl
     exact⟨.returned (.bool false),w',hR,wide (pre.trans (StepsIn.trans hs (.one trivial (stepR_round_exit rfl rfl hk hend))))⟩
   | panic v=>
     cases e2 with
     | panic ch=>
       obtain⟨todo,hs⟩:=harr2
       obtain⟨⟨ks,hd,hks,_⟩,_⟩:=hd3
       have hk0:=hks rfl
       subst hk0
       simp at hd
       obtain⟨hv,hN,hbl,hR⟩:=hK3
       obtain⟨c1,c2,c3⟩:=cut_ok hm3 st (k:=m.H.length) hN (by rw[h2.len];exact Nat.le_refl _) hbl
       obtain⟨y,hy,hxy⟩:=hx3
       refine⟨.panicked ch,m3.w,⟨m3.cut m.H.length,.panic v,rfl,c1,c2,⟨y,hy,c3 _ _ hv hxy⟩,hR⟩,wide (pre.trans (StepsIn.trans hs (.one trivial ?_)))⟩
       obtain⟨fnn,hfnn⟩:=Option.isSome_iff_exists.1 hfn
       exact step_leave_panicked ⟨rfl,hd,fnn,hfnn⟩
     | _=>simp[ExRel]at hx3
 | ret=>exact hK1.elim
 | exit i=>exact hK1.elim
 | panic v=>exact hK1.elim
end Go.TL
