import Derived.Test.YthmbhfgflijapaaGreatDoorPk1
set_option linter.all false
namespace Go.TL
open Go
theorem zbV(b:Nat):∀(vs:List Value) (o:Nat) (w:World),(w.setCells b o vs).os=w.os/\(w.setCells b o vs).tape=w.tape/\(w.setCells b o vs).output=w.output/\(w.setCells b o vs).heap.size=w.heap.size/\
  (∀k,k≠b->(w.setCells b o vs).heap[k]?=w.heap[k]?)/\∀k,((w.setCells b o vs).cell? ⟨b,k,none⟩).isSome=(w.cell? ⟨b,k,none⟩).isSome
 | [],_,_=>⟨rfl,rfl,rfl,rfl,fun _ _=>rfl,fun _=>rfl⟩
 | v::r,o,w=>by
   obtain⟨h1,h2,h3,h4,h5,h6⟩:=zbV b r (o+1) (w.setCell ⟨b,o,none⟩ v)
   refine⟨h1,h2,h3,by rw[World.setCells,h4];simp[World.setCell],fun k hk=>by rw[World.setCells,h5 k hk];exact RowKit.Below.heap_setCell _ _ _ _ hk,fun k=>?_⟩
   rw[World.setCells,h6 k]
   by_cases hk:k=o
   ·subst hk
    cases hc:w.cell? ⟨b,k,none⟩ with
    | some u=>rw[World.cell?_setCell_same _ _ _ hc];rfl
    | none=>
      cases hc':(w.setCell ⟨b,k,none⟩ v).cell? ⟨b,k,none⟩ with
      | none=>rfl
      | some u=>
        exfalso
        simp only[World.cell?,World.setCell,qbu]at hc hc'
        cases hq:w.heap[b]? with
        | none=>rw[hq]at hc';simp at hc'
        | some ob=>
          rw[hq]at hc hc'
          cases ob <;> simp at hc hc'
          rw[qaK]at hc'
          simp at hc'
          omega
   ·rw[World.cell?_setCell_other _ _ _ _ (by simp <;> omega)]
theorem zcC(b k:Nat):∀(vs:List Value) (o:Nat) (w:World),(w.setCells b o vs).shape? k=w.shape? k
 | [],_,_=>rfl
 | v::r,o,w=>by
   rw[World.setCells,zcC b k r]
   unfold World.shape? World.setCell
   simp only[qbu]
   by_cases h:b=k
   ·subst h
    rw[if_pos rfl]
    cases hq:w.heap[b]? with
    | none=>rfl
    | some ob=>cases ob <;> simp
   ·rw[if_neg h]
def splice(cs:List SV)(off:Nat)(vs:List SV):List SV:=cs.take off++vs++cs.drop (off+vs.length)
theorem zi0{cs:List SV}{off:Nat}{vs:List SV}(hl:off+vs.length≤cs.length){j:Nat}{c:SV}(h:(splice cs off vs)[j]?=some c):
  (off≤j/\j<off+vs.length/\vs[j-off]?=some c)\/((j<off\/off+vs.length≤j)/\cs[j]?=some c):=by
 unfold splice at h
 rw[qaO]at h
 have ht:(cs.take off).length=off:=by simp;omega
 by_cases h1:j<off
 ·rw[qat (by rw[ht];exact h1),qaS,if_pos h1]at h
  exact .inr ⟨.inl h1,h⟩
 ·rw[qaA (by rw[ht];omega),ht]at h
  by_cases h2:j-off<vs.length
  ·rw[qat h2]at h
   exact .inl ⟨by omega,by omega,h⟩
  ·rw[qaA (by omega),qa6]at h
   rw[show off+vs.length+(j-off-vs.length)=j from by omega]at h
   exact .inr ⟨.inr (by omega),h⟩
theorem zfI{cs:List SV}{off:Nat}{vs:List SV}(hl:off+vs.length≤cs.length):(splice cs off vs).length=cs.length:=by
 simp[splice];omega
theorem zh7{m:M}(hm:HRel m){id off:Nat}{p:Place}{cs vs:List SV}{ys:List Value}(hp:m.β[id]?=some p)(hH:m.H[id]?=some (.cells cs))(hl:off+vs.length≤cs.length)(hpos:0<vs.length)
  (hys:vs.length=ys.length)(h1:∀y∈ys,y.oneCell'=true)(hr:∀(i:Nat) c y,vs[i]?=some c->ys[i]?=some y->SRel m c y):
  Step m ⟨m.A,m.β,m.H.set id (.cells (splice cs off vs)),m.w.setCells p.b (p.lo+off) ys⟩/\HRel ⟨m.A,m.β,m.H.set id (.cells (splice cs off vs)),m.w.setCells p.b (p.lo+off) ys⟩:=by
 obtain⟨b1,b2,b3⟩:=hm.blk id p _ hp hH
 obtain⟨e1,e2,e3,e4,e5,e6⟩:=zbV p.b ys (p.lo+off) m.w
 refine upd hm hp hH e1 e2 e3 e4 e5 (fun o ho=>?_) (fun o=>World.frozen?_setCells _ _ _ _ _) e6 (fun s hs=>by rw[zcC];exact hs) (by rw[zfI hl];exact b1) (by omega) (fun j c hc=>?_)
 ·exact World.cell?_setCells_out _ _ _ _ _ fun _ _=>by simp only[];omega
 ·rcases zi0 hl hc with ⟨g1,g2,g3⟩|⟨g1,g2⟩
  ·have hj:j-off<ys.length:=by omega
   have:=World.cell?_setCells_in p.b ys (p.lo+off) m.w (fun q hq=>(b2 _ (by omega) (by omega)).1) (j-off) hj
   rw[show p.lo+off+(j-off)=p.lo+j from by omega]at this
   exact⟨_,this,h1 _ (qaf hj),hr _ _ _ g3 (qac hj)⟩
  ·obtain⟨y,hy1,hy0,hy2⟩:=b3 j c g2
   exact⟨y,by rw[World.cell?_setCells_out _ _ _ _ _ (fun _ _=>by simp only[];omega)];exact hy1,hy0,hy2⟩
section rules
variable {P:Program}{n:Nat}{env:Env}{H:Heap}{K:TK}{all:Array Oper}{rest:List Oper}{tab:Tab}
variable {d:Nat}{ty:TypeId}{pos:String}{aft:Array Edge}{q:Bool}
theorem TO.store(hT:zaw P tab){t:TypeId}{i:TyI}{x y:Operand}{v:SV}{vs cs:List SV}{id off:Nat}{H':Heap}(ht:tab.get t=some i)(hx:env.val x=some (.ref id off))(hy:env.val y=some v)
  (hv:v.solid=true)(hvs:v.cells=vs)(hsz:i.size=vs.length)(hpos:0<vs.length)(hH:H[id]?=some (.cells cs))(hl:off+vs.length≤cs.length)(hH':H.set id (.cells (splice cs off vs))=H')
  (k:TO false P n all rest env H' K):TO false P n all (⟨none,.store t x y,ty,pos,aft,none⟩::rest) env H K:=
 TO.eff0 (fun m ac h1 h2 h3=>by
  obtain⟨g1,g0,g2⟩:=(h3.val hy).cells hv
  rw[hvs]at g1 g2
  have h:=h3.val hx
  generalize hq:ac.eval x=z at h
  cases h with
  | ref _ _ p hp hn=>
    have hH1:m.H[id]?=some (.cells cs):=by rw[h1];exact hH
    obtain⟨b1,b2,b3⟩:=h2.blk id p _ hp hH1
    obtain⟨s,hm'⟩:=zh7 h2 (ys:=(ac.eval y).cells.toList) hp hH1 hl hpos (by simpa using g1) (fun u hu=>by
     obtain⟨q,hq⟩:=qbc hu
     exact g0 q u (by simpa using hq)) (fun q c u hc hu=>g2 q c u hc (by simpa using hu))
    refine⟨_,?_,s,hm',by rw[h1];exact hH'⟩
    have hst:=run_storeCells_cells (P:=P) p.b (p.lo+off) (ac.eval y).cells.toList 0 m.w (fun q hq=>(b2 _ (by omega) (by simp at hq;omega)).1) (fun q hq=>(b2 _ (by omega) (by simp at hq;omega)).2) (fun u hu=>by
     obtain⟨q,hq⟩:=qbc hu
     exact g0 q u (by simpa using hq))
    have hne:(ac.eval y).cells.size=i.size:=by omega
    simp[execOp,hq,Instr.storeAt,Instr.sureAddr,storeVar,(hT t i ht).sizeOf,hne,hst]) k
theorem TO.ztg(hT:zaw P tab){t:TypeId}{i:TyI}{x y:Operand}{v:SV}{cs:List SV}{id off:Nat}{H':Heap}(ht:tab.get t=some i)(hx:env.val x=some (.ref id off))(hy:env.val y=some v)
  (hv:v.solid=true)(hvs:v.cells=[v])(hsz:i.size=1)(hH:H[id]?=some (.cells cs))(hl:off<cs.length)(hH':H.set id (.cells (cs.set off v))=H')
  (k:TO false P n all rest env H' K):TO false P n all (⟨none,.store t x y,ty,pos,aft,none⟩::rest) env H K:=
 TO.store hT ht hx hy hv hvs (by rw[hsz];rfl) (by simp) hH (by simpa using (show off+1≤cs.length from hl)) (by
  rw[<-hH']
  congr 2
  simp only[splice,qbW]
  rw[List.set_eq_take_append_cons_drop,if_pos hl];simp) k
def zgr(fs:List (Nat×Nat)):List SV->List (Nat×SV)->Option (List SV)
 | cs,[]=>some cs
 | cs,(i,v)::r=>match fs[i]? with
   | some (off,sz)=>if v.solid=true/\v.cells.length=sz/\off+sz≤cs.length then zgr fs (splice cs off v.cells) r else none
   | none=>none
theorem znb(ys:List Value)(off:Nat):∀(k:Nat) (cells:Array Value),off+k+ys.length≤cells.size->
  (((ys.zipIdx k).foldl (fun cs (x:Value×Nat)=>cs.setIfInBounds (off+x.2) x.1) cells).size=cells.size)/\
  ∀j,((ys.zipIdx k).foldl (fun cs (x:Value×Nat)=>cs.setIfInBounds (off+x.2) x.1) cells)[j]?=if off+k≤j/\j<off+k+ys.length then ys[j-(off+k)]? else cells[j]? :=by
 induction ys with
 | nil=>intro k cells _;refine⟨rfl,fun j=>?_⟩;rw[if_neg (by simp <;> omega)];rfl
 | cons y r ih=>
   intro k cells hk
   simp only[qal]at hk
   have:=ih (k+1) (cells.setIfInBounds (off+k) y) (by simp;omega)
   simp only[List.zipIdx_cons,qbU]
   refine⟨by rw[this.1];simp,fun j=>?_⟩
   rw[this.2 j]
   by_cases h1:off+(k+1)≤j/\j<off+(k+1)+r.length
   ·rw[if_pos h1,if_pos (by simp;omega),show j-(off+k)=(j-(off+(k+1)))+1 from by omega];simp
   ·rw[if_neg h1]
    by_cases h2:j=off+k
    ·subst h2
     rw[if_pos (by simp),Array.getElem?_setIfInBounds_self_of_lt (by omega)];simp
    ·rw[if_neg (by simp;omega),Array.getElem?_setIfInBounds_ne (by omega)]
theorem zpx{m:M}(fs:List (Nat×Nat))(pl:Nat->Option (Nat×Nat))(hpl:∀(i:Nat) a,fs[i]?=some a->pl i=some a):∀(parts:List (Nat×SV)) (vals:List (Nat×Value)) (cs cs':List SV) (arr:Array Value),
  parts.length=vals.length->(∀(i:Nat) a b,parts[i]?=some a->vals[i]?=some b->a.1=b.1/\SRel m a.2 b.2)->zgr fs cs parts=some cs'->
  arr.size=cs.length->(∀(i:Nat) y,arr[i]?=some y->y.oneCell'=true)->(∀(i:Nat) c y,cs[i]?=some c->arr[i]?=some y->SRel m c y)->
  ∃arr',Instr.fill pl arr vals=some arr'/\arr'.size=cs'.length/\(∀(i:Nat) y,arr'[i]?=some y->y.oneCell'=true)/\(∀(i:Nat) c y,cs'[i]?=some c->arr'[i]?=some y->SRel m c y)
 | [],vals,cs,cs',arr,hl,_,hf,ha,h1,hr=>by
   cases vals with
   | nil=>simp[zgr]at hf;subst hf;exact⟨arr,rfl,ha,h1,hr⟩
   | cons=>simp at hl
 | (i,v)::parts,vals,cs,cs',arr,hl,hv,hf,ha,h1,hr=>by
   cases vals with
   | nil=>simp at hl
   | cons b vals=>
     obtain⟨i',x⟩:=b
     have h0:=hv 0 _ _ rfl rfl
     simp only at h0
     obtain⟨rfl,hvx⟩:=h0
     simp only[zgr]at hf
     cases hfi:fs[i]? with
     | none=>rw[hfi]at hf;cases hf
     | some os=>
       obtain⟨off,sz⟩:=os
       rw[hfi]at hf
       simp only at hf
       split at hf
       ·rename_i hc
        obtain⟨c1,c2,c3⟩:=hc
        obtain⟨g1,g0,g2⟩:=hvx.cells c1
        have hxs:x.cells.size=sz:=by omega
        have hfold:=znb x.cells.toList off 0 arr (by simp;omega)
        have hstep:Instr.fill pl arr ((i,x)::vals)=Instr.fill pl ((x.cells.toList.zipIdx 0).foldl (fun cs (x:Value×Nat)=>cs.setIfInBounds (off+x.2) x.1) arr) vals:=by
         rw[Instr.fill,hpl _ _ hfi]
         simp only
         rw[if_neg (by simp[hxs];omega),<-Array.foldl_toList,Array.toList_zipIdx]
        rw[hstep]
        refine zpx fs pl hpl parts vals _ cs' _ (by simpa using hl) (fun j a b ha hb=>hv (j+1) a b (by simpa using ha) (by simpa using hb)) hf ?_ (fun j y hy=>?_) (fun j c y hc hy=>?_)
        ·rw[hfold.1,zfI (by omega),ha]
        ·rw[hfold.2 j]at hy
         split at hy
         ·exact g0 _ y (by simpa using hy)
         ·exact h1 _ y hy
        ·rw[hfold.2 j]at hy
         rcases zi0 (by omega) hc with ⟨q1,q2,q3⟩|⟨q1,q2⟩
         ·rw[if_pos (by simp;omega)]at hy
          exact g2 _ c y q3 (by simpa using hy)
         ·rw[if_neg (by simp;omega)]at hy
          exact hr _ c y q2 hy
       ·cases hf
def sizes(tab:Tab):List (Nat×TypeId)->Option (List (Nat×Nat))
 | []=>some []
 | (o,t)::r=>match tab.get t,sizes tab r with
   | some i,some l=>some ((o,i.size)::l)
   | _,_=>none
theorem zle(hT:zaw P tab)(w:World):∀(gs:List Field) (fs:List (Nat×Nat)),sizes tab (gs.map fun f=>(f.offset,f.type))=some fs->
  (gs.mapM fun f=>(Functor.map (Prod.mk f.offset) (sizeOf f.type):Sem (Nat×Nat))).run P w= .ok fs w
 | [],fs,h=>by simp[sizes]at h;subst h;rfl
 | g::gs,fs,h=>by
   simp only[qah,sizes]at h
   cases h1:tab.get g.type with
   | none=>rw[h1]at h;cases h
   | some i=>
     rw[h1]at h
     cases h2:sizes tab (gs.map fun f=>(f.offset,f.type)) with
     | none=>rw[h2]at h;cases h
     | some l=>
       rw[h2]at h
       cases h
       have:=zle hT w gs l h2
       simp[qb0,(hT _ i h1).sizeOf,this]
def allT:List SV->Option (List T)
 | []=>some []
 | .t t::r=>(allT r).map (t:: ·)
 | .sl sz es _::r=>(allT r).map (.sl sz es:: ·)
 | _::_=>none
theorem zew{m:M}:∀ {cs:List SV} {ts:List T},allT cs=some ts->cs.length=ts.length/\∀(i:Nat) t,ts[i]?=some t->∃c,cs[i]?=some c/\∀y,SRel m c y->TRel m.A m.w t y
 | [],ts,h=>by simp[allT]at h;subst h;simp
 | c::r,ts,h=>by
   have key:∀t0,(∀y,SRel m c y->TRel m.A m.w t0 y)->(allT r).map (t0:: ·)=some ts->(c::r).length=ts.length/\∀(i:Nat) t,ts[i]?=some t->∃c',(c::r)[i]?=some c'/\∀y,SRel m c' y->TRel m.A m.w t y:=by
    intro t0 h0 h
    cases hr:allT r with
    | none=>rw[hr]at h;cases h
    | some us=>
      rw[hr]at h
      cases h
      obtain⟨g1,g2⟩:=zew (m:=m) hr
      refine⟨by simp[g1],fun i t ht=>?_⟩
      cases i with
      | zero=>simp at ht;subst ht;exact⟨c,rfl,h0⟩
      | succ i=>simpa using g2 i t (by simpa using ht)
   cases c with
   | t t=>exact key t (fun y hy=>by cases hy with|t _ _ h=>exact h) h
   | sl sz es id=>exact key (.sl sz es) (fun y hy=>by cases hy with|sl _ _ _ _ _ h=>exact h) h
   | _=>simp[allT]at h
def Env.parts(env:Env):List (Nat×Operand)->Option (List (Nat×SV))
 | []=>some []
 | (i,x)::r=>match env.val x,Env.parts env r with
   | some v,some l=>some ((i,v)::l)
   | _,_=>none
theorem ERel.parts{m:M}{ac:Act}(g:ERel m n env ac.tmps):∀(l:List (Nat×Operand)) (ps:List (Nat×SV)),env.parts l=some ps->
  ps.length=(l.map fun x=>(x.1,ac.eval x.2)).length/\∀(i:Nat) a b,ps[i]?=some a->(l.map fun x=>(x.1,ac.eval x.2))[i]?=some b->a.1=b.1/\SRel m a.2 b.2
 | [],ps,h=>by simp[Env.parts]at h;subst h;simp
 | (j,x)::r,ps,h=>by
   simp only[Env.parts]at h
   cases hx:env.val x with
   | none=>rw[hx]at h;cases h
   | some v=>
     rw[hx]at h
     cases hr:env.parts r with
     | none=>rw[hr]at h;cases h
     | some l=>
       rw[hr]at h
       cases h
       obtain⟨g1,g2⟩:=ERel.parts g r l hr
       refine⟨by simpa using g1,fun i a b ha hb=>?_⟩
       cases i with
       | zero=>simp at ha hb;subst ha;subst hb;exact⟨rfl,g.val hx⟩
       | succ i=>exact g2 i a b (by simpa using ha) (by simpa using hb)
theorem zkc(hT:zaw P tab){m:M}{ac:Act}(g:ERel m n env ac.tmps){t:TypeId}{i:TyI}{fs:List (Nat×TypeId)}{fz:List (Nat×Nat)}{parts:Array (Nat×Operand)}{ps:List (Nat×SV)}{cs:List SV}
  (ht:tab.get t=some i)(hk:i.k= .struct fs)(hz:sizes tab fs=some fz)(hp:env.parts parts.toList=some ps)(hc:zgr fz (i.zero.map .t) ps=some cs):
  ∃arr,(∀w',(Instr.build t (parts.map fun(i,x)=>(i,ac.eval x))).run P w'= .ok (.agg arr) w')/\arr.size=cs.length/\(∀(i:Nat) y,arr[i]?=some y->y.oneCell'=true)/\(∀(i:Nat) c y,cs[i]?=some c->arr[i]?=some y->SRel m c y):=by
 obtain⟨gs,hu,hfs⟩:=(hT t i ht).struct hk
 obtain⟨z,hz1,hz2,hz3,_⟩:=(hT t i ht).zero
 obtain⟨q1,q0,q2⟩:=zb3 (A:=m.A) (w:=m.w) _ _ hz2
 obtain⟨p1,p2⟩:=g.parts parts.toList ps hp
 obtain⟨arr,r1,r2,r3,r4⟩:=zpx (m:=m) fz (fun j=>fz[j]?) (fun _ _ h=>h) ps _ (i.zero.map .t) cs z.cells p1 p2 hc (by simp[q1]) (fun j y hy=>q0 j y (by simpa using hy)) (fun j c y hj hy=>by
  rw[qar]at hj
  cases hq:i.zero[j]? with
  | none=>rw[hq]at hj;cases hj
  | some u=>rw[hq]at hj;cases hj;exact .t _ _ (q2 j u y hq (by simpa using hy)))
 refine⟨arr,fun w'=>?_,r2,r3,r4⟩
 have hsz:=zle hT w' gs.toList fz (by rw[<-hfs];exact hz)
 have hm:(gs.mapM fun f=>(do pure (f.offset,<-sizeOf f.type):Sem (Nat×Nat))).run P w'= .ok fz.toArray w':=by
  rw[qcq]
  simp[hsz]
 simp only[Instr.build,Sem.run_bind,hz1,Result.andThen_ok,underlying,run_program,hu,Sem.run_pure,hm,Array.toList_map,List.getElem?_toArray]
 rw[r1]
 rfl
theorem TO.build(hT:zaw P tab){t:TypeId}{i:TyI}{fs:List (Nat×TypeId)}{fz:List (Nat×Nat)}{parts:Array (Nat×Operand)}{ps:List (Nat×SV)}{cs:List SV}(hd:Nat.ble (d+1) n=true)
  (ht:tab.get t=some i)(hk:i.k= .struct fs)(hz:sizes tab fs=some fz)(hp:env.parts parts.toList=some ps)(hc:zgr fz (i.zero.map .t) ps=some cs)
  (k:TO q P n all rest ((d,.ag cs)::env) H K):TO q P n all (⟨some d,.build t parts,ty,pos,aft,none⟩::rest) env H K:=
 TO.op hd (fun m ac h1 h2 h3=>by
  obtain⟨arr,r1,r2,r3,r4⟩:=zkc hT h3 ht hk hz hp hc
  exact⟨_,fun w' _=>by simp only[execOp,Sem.run_bind,r1 w'];rfl,.ag _ _ r2 r3 r4⟩) k
theorem TO.zsI(hT:zaw P tab){t:TypeId}{i:TyI}{fs:List (Nat×TypeId)}{fz:List (Nat×Nat)}{parts:Array (Nat×Operand)}{ps:List (Nat×SV)}{cs:List SV}{ts:List T}(hd:Nat.ble (d+1) n=true)
  (ht:tab.get t=some i)(hk:i.k= .struct fs)(hz:sizes tab fs=some fz)(hp:env.parts parts.toList=some ps)(hc:zgr fz (i.zero.map .t) ps=some cs)(hts:allT cs=some ts)
  (k:TO q P n all rest ((d,.t (.ag ts))::env) H K):TO q P n all (⟨some d,.build t parts,ty,pos,aft,none⟩::rest) env H K:=
 TO.op hd (fun m ac h1 h2 h3=>by
  obtain⟨arr,r1,r2,r3,r4⟩:=zkc hT h3 ht hk hz hp hc
  obtain⟨a1,a2⟩:=zew (m:=m) hts
  refine⟨_,fun w' _=>by simp only[execOp,Sem.run_bind,r1 w'];rfl,.t _ _ (.ag _ _ (by omega) r3 fun j t y hj hy=>?_)⟩
  obtain⟨c,hc1,hc2⟩:=a2 j t hj
  exact hc2 y (r4 j c y hc1 hy)) k
end rules
def T.solid:T->Bool
 | .v x=>x.oneCell'
 | _=>true
theorem TRel.cells{A:Foot}{w:World}{t:T}{x:Value}(h:TRel A w t x)(ht:t.solid=true):x.cells.size=t.cells.length/\(∀(i:Nat) y,x.cells[i]?=some y->y.oneCell'=true)/\∀(i:Nat) c y,t.cells[i]?=some c->x.cells[i]?=some y->TRel A w c y:=by
 have one:∀(v:T) (x:Value),TRel A w v x->∀(i:Nat) c y,[v][i]?=some c->#[x][i]?=some y->TRel A w c y:=by
  exact zwdg
 have oc:∀(x:Value),x.oneCell'=true->∀(i:Nat) y,#[x][i]?=some y->y.oneCell'=true:=by
  exact zwec
 cases h with
 | v x=>cases x <;> first|(simp[T.solid,Value.oneCell']at ht;done)|exact⟨rfl,oc _ rfl,one _ _ (.v _)⟩
 | ag cs arr hs h1 hr=>exact⟨hs,h1,hr⟩
 | nil sz=>exact⟨rfl,oc _ rfl,one _ _ (.nil sz)⟩
 | empty sz a=>exact⟨rfl,oc _ rfl,one _ _ (.empty sz a)⟩
 | sl sz es b off cap f h1 h2 h3 h4 h5 h6=>exact⟨rfl,oc _ rfl,one _ _ (.sl sz es b off cap f h1 h2 h3 h4 h5 h6)⟩
def SV.toT:SV->Option T
 | .t u=>some u
 | .sl sz es _=>some (.sl sz es)
 | .ag cs=>(allT cs).map .ag
 | _=>none
theorem SRel.toT{m:M}{v:SV}{x:Value}{t:T}(h:SRel m v x)(ht:v.toT=some t):TRel m.A m.w t x:=by
 cases v with
 | t u=>simp only[SV.toT,qaE]at ht;subst ht;cases h with|t _ _ h=>exact h
 | sl sz es id=>simp only[SV.toT,qaE]at ht;subst ht;cases h with|sl _ _ _ _ _ h=>exact h
 | ag cs=>
   simp only[SV.toT]at ht
   cases hc:allT cs with
   | none=>rw[hc]at ht;cases ht
   | some ts=>
     rw[hc]at ht
     cases ht
     obtain⟨a1,a2⟩:=zew (m:=m) hc
     cases h with
     | ag _ arr hs h1 hr=>
       refine .ag _ _ (by omega) h1 fun j t y hj hy=>?_
       obtain⟨c,hc1,hc2⟩:=a2 j t hj
       exact hc2 y (hr j c y hc1 hy)
 | _=>simp[SV.toT]at ht
theorem zh5{m:M}(hm:HRel m){id n n':Nat}{p p':Place}{A':Foot}{w':World}(hp:m.β[id]?=some p)(hH:m.H[id]?=some (.tail n))(hos:w'.os=m.w.os)(htp:w'.tape=m.w.tape)(hou:w'.output=m.w.output)
  (hsz:m.w.heap.size≤w'.heap.size)(hcell:∀b o,b<m.w.heap.size->¬(b=p.b/\p.lo≤o/\o<p.hi)->w'.cell? ⟨b,o,none⟩=m.w.cell? ⟨b,o,none⟩)(hfr:∀b o,b<m.w.heap.size->w'.frozen? ⟨b,o,none⟩=m.w.frozen? ⟨b,o,none⟩)
  (hblk:∀b,b<m.w.heap.size->(b≠p.b\/p.hi≤p.lo)->w'.heap[b]?=m.w.heap[b]?)(hsm:∀b o,b<m.w.heap.size->(m.w.cell? ⟨b,o,none⟩).isSome=true->(w'.cell? ⟨b,o,none⟩).isSome=true)(hshp:∀b s,m.w.shape? b=some s->w'.shape? b=some s)
  (hA:∀b o,m.A b o->A' b o)(hA':∀b o,A' b o->m.A b o\/(b=p.b/\p.lo≤o/\o<p.hi)\/(m.w.heap.size≤b/\b<w'.heap.size))
  (hp':(p'.b=p.b/\p.lo≤p'.lo/\p'.hi≤p.hi)\/(m.w.heap.size≤p'.b/\p'.b<w'.heap.size)\/p'.hi≤p'.lo)(hdis:∀b o,A' b o->¬m.A b o->¬(b=p'.b/\p'.lo≤o/\o<p'.hi))
  (hfree:∀o,p'.lo≤o->o<p'.hi->Free w' p'.b o)(hn:n≤n')(heq:n=n'->p'=p):
  Step m ⟨A',m.β.set id p',m.H.set id (.tail n'),w'⟩/\HRel ⟨A',m.β.set id p',m.H.set id (.tail n'),w'⟩:=by
 have hid:=(qaa.1 hH).1
 have hidβ:=(qaa.1 hp).1
 have pick:∀(i:Nat) q k,(m.β.set id p')[i]?=some q->(m.H.set id (.tail n'))[i]?=some k->(i=id/\q=p'/\k= .tail n')\/(i≠id/\m.β[i]?=some q/\m.H[i]?=some k):=by
  exact zwbd
 have ownp:∀o,p.lo≤o->o<p.hi->Own m p.b o:=fun o h1 h2=>⟨id,p,_,hp,hH,rfl,rfl,h1,h2⟩
 have hpin:p.lo<p.hi->p.b<m.w.heap.size:=fun h=>hm.inO id p _ hp hH rfl h
 have s:Step m ⟨A',m.β.set id p',m.H.set id (.tail n'),w'⟩:=by
  refine⟨hos,htp,hou,hsz,hA,fun b o h=>?_,fun b o h=>?_,fun b o hb hno=>hcell b o hb fun h=>hno (by rw[h.1];exact ownp o h.2.1 h.2.2),fun b o hb _ _=>hfr b o hb,fun b hb hno=>hblk b hb ?_,hshp,fun b L hL=>⟨L,(hblk b (qaj.1 hL).1 ?_).trans hL⟩,fun b o hb h=>hsm b o hb h,fun i q hq=>?_⟩
  ·exact zwcx
  ·obtain⟨i,q,k,h1,h2,h3,h4,h5,h6⟩:=h
   rcases pick i q k h1 h2 with ⟨rfl,rfl,rfl⟩|⟨_,g1,g2⟩
   ·rcases hp' with g|g|g
    ·exact zwfq
    ·exact .inr (by rw[<-h4];exact g.1)
    ·omega
   ·exact .inl ⟨i,q,k,g1,g2,h3,h4,h5,h6⟩
  ·exact zwce
  ·by_cases hb':b=p.b
   ·by_cases hl:p.lo<p.hi
    ·exfalso
     have:=(hm.blk id p _ hp hH p.lo (qae _) hl).1
     rw[<-hb']at this
     simp[World.cell?,hL]at this
    ·exact .inr (by omega)
   ·exact .inl hb'
  ·by_cases hi:i=id
   ·subst hi
    have:q=p:=by rw[hp]at hq;cases hq;rfl
    subst this
    refine⟨p',by show(m.β.set i p')[i]?=_;rw[qav hidβ],?_⟩
    show zaZ m.H[i]? (m.H.set i (.tail n'))[i]? q p'
    rw[qav hid,hH]
    intro k hk
    cases hk
    exact⟨hn,heq⟩
   ·refine⟨q,by show(m.β.set id p')[i]?=_;rw[qaF (by omega)];exact hq,zb4 ?_⟩
    show(m.H.set id (.tail n'))[i]?=m.H[i]?
    rw[qaF (by omega)]
 refine⟨s,by simpa using hm.len,fun i q k h1 h2=>?_,fun i j q r k l hij h1 h2 h3 h4 hk hl=>?_,fun b o h=>?_,fun b o h=>?_,fun i q k h1 h2 hk hq=>?_,s.glob hm⟩
 ·rcases pick i q k h1 h2 with ⟨rfl,rfl,rfl⟩|⟨hi,g1,g2⟩
  ·exact hfree
  ·cases hlv:k.live with
   | false=>cases k <;> simp[Blk.live]at hlv;trivial
   | true=>
     have hb:=hm.blk i q k g1 g2
     have hap:=hm.apart i id q p k _ hi g1 g2 hp hH hlv rfl
     refine hb.step hm s (fun o ho ho'=>?_) (fun e=>?_)
     ·have hqs:=hm.inO i q k g1 g2 hlv (by omega)
      exact⟨hcell _ _ hqs fun h=>by have:=hap h.1;omega,fun _=>hfr _ _ hqs⟩
     ·obtain⟨e1,e2,e3⟩:=hb.zc1 e
      have hqs:=hm.inO i q _ g1 g2 hlv (by omega)
      refine hblk _ hqs ?_
      by_cases hqb:q.b=p.b
      ·by_cases hl:p.lo<p.hi
       ·have:=(hm.blk id p _ hp hH p.lo (qae _) hl).1
        rw[<-hqb,e3]at this
        cases this
       ·exact .inr (by omega)
      ·exact .inl hqb
 ·have inP:∀(i:Nat) r l,i≠id->m.β[i]?=some r->m.H[i]?=some l->l.live=true->p'.apart r:=by
   intro i r l hi h1 h2 hl e
   by_cases hlt:r.lo<r.hi
   ·have hrs:=hm.inO i r l h1 h2 hl hlt
    rcases hp' with g|g|g
    ·have:=hm.apart i id r p l _ hi h1 h2 hp hH hl rfl (by rw[<-e,g.1])
     omega
    ·omega
    ·omega
   ·omega
  rcases pick i q k h1 h2 with ⟨rfl,rfl,rfl⟩|⟨hi,g1,g2⟩ <;> rcases pick j r l h3 h4 with ⟨rfl,rfl,rfl⟩|⟨hj,g3,g4⟩
  ·exact absurd rfl hij
  ·exact inP j r l hj g3 g4 hl
  ·intro e;have:=inP i q k hi g1 g2 hk e.symm;omega
  ·exact hm.apart i j q r k l hij g1 g2 g3 g4 hk hl
 ·rintro⟨i,q,k,h1,h2,h3,h4,h5,h6⟩
  rcases pick i q k h1 h2 with ⟨rfl,rfl,rfl⟩|⟨hi,g1,g2⟩
  ·by_cases ha:m.A b o
   ·rcases hp' with g|g|g
    ·exact zwes
    ·have:=hm.inA b o ha;omega
    ·omega
   ·exact hdis b o h ha ⟨h4.symm,h5,h6⟩
  ·rcases hA' b o h with h|h|h
   ·exact hm.still b o h ⟨i,q,k,g1,g2,h3,h4,h5,h6⟩
   ·have:=hm.apart i id q p k _ hi g1 g2 hp hH h3 rfl (by rw[h4,h.1])
    omega
   ·have:=hm.inO i q k g1 g2 h3 (by omega);omega
 ·exact zwcq
 ·rcases pick i q k h1 h2 with ⟨rfl,rfl,rfl⟩|⟨hi,g1,g2⟩
  ·rcases hp' with g|g|g
   ·rw[g.1];exact qa0 (hpin (by omega)) hsz
   ·exact g.2
   ·omega
  ·exact qa0 (hm.inO i q k g1 g2 hk hq) hsz
theorem zbw{es ys:List T}{sz:Nat}{i j:Nat}(hi:i<(es++ys).length):(i<es.length/\∀e,(es++ys)[i]?=some e->es[i]?=some e)\/(es.length≤i/\i-es.length<ys.length/\∀e,(es++ys)[i]?=some e->ys[i-es.length]?=some e):=by
 by_cases h:i<es.length
 ·exact .inl ⟨h,fun e he=>by rw[qat h]at he;exact he⟩
 ·refine .inr ⟨by omega,by simp at hi;omega,fun e he=>?_⟩
  rw[qaA (by omega)]at he
  exact he
theorem TRel.flat{A:Foot}{w:World}{sz:Nat}{ys:List T}{ad:Option Addr}{len cap:Nat}(h:TRel A w (.sl sz ys) (.slice ad len cap)):
  len=ys.length/\∃g:Nat->Value,(∀i j,i<ys.length->j<sz->(g (i*sz+j)).oneCell'=true)/\(∀(i:Nat) e,ys[i]?=some e->e.cells.length=sz)/\(∀(i:Nat) e (j:Nat) c,ys[i]?=some e->e.cells[j]?=some c->TRel A w c (g (i*sz+j)))/\
   (ys=[]\/∃b off,ad=some ⟨b,off,none⟩/\∀i j,i<ys.length->j<sz->w.cell? ⟨b,off+(i*sz+j),none⟩=some (g (i*sz+j))):=by
 cases h with
 | nil=>exact⟨rfl,fun _=>undef,by simp,by simp,by simp,.inl rfl⟩
 | empty=>exact⟨rfl,fun _=>undef,by simp,by simp,by simp,.inl rfl⟩
 | sl _ _ b off _ f hcap hsz hA hw ho hr=>exact⟨rfl,f,ho,hsz,hr,.inr ⟨b,off,rfl,hw⟩⟩
theorem zhn{sz k q:Nat}(hs:0<sz)(h:q<k*sz):q / sz<k/\q % sz<sz/\q / sz*sz+q % sz=q:=by
 refine⟨(Nat.div_lt_iff_lt_mul hs).2 h,Nat.mod_lt _ hs,by rw[qco];exact Nat.div_add_mod q sz⟩
theorem zbZ{P:Program}{A:Foot}{w:World}{sz:Nat}{ys:List T}{ad:Option Addr}{len cap:Nat}(h:TRel A w (.sl sz ys) (.slice ad len cap))(hs:0<sz):
  ∃g:Nat->Value,(∀w':World,w'.heap=w.heap->(Builtin.firstCells sz ys.length (.slice ad len cap)).run P w'= .ok ((List.range (ys.length*sz)).map g).toArray w')/\(∀q,q<ys.length*sz->(g q).oneCell'=true)/\(∀(i:Nat) e,ys[i]?=some e->e.cells.length=sz)/\
   (∀(i:Nat) e (j:Nat) c,ys[i]?=some e->e.cells[j]?=some c->TRel A w c (g (i*sz+j))):=by
 obtain⟨hl,g,g1,g2,g3,g4⟩:=h.flat
 refine⟨g,fun w' hw'=>?_,fun q hq=>?_,g2,g3⟩
 ·rcases g4 with rfl|⟨b,off,rfl,g4⟩
  ·cases ad with
   | none=>simp[Builtin.firstCells]
   | some a=>
     simp only[Builtin.firstCells,qaz]
     exact run_loadCells w' a (0*sz) g fun j hj=>by omega
  ·simp only[Builtin.firstCells]
   exact run_loadCells w' ⟨b,off,none⟩ (ys.length*sz) g fun j hj=>by
    rw[zbv]
    show w'.cell? _=_
    rw[show w'.cell? ⟨b,off+j,none⟩=w.cell? ⟨b,off+j,none⟩ from by simp[World.cell?,hw']]
    obtain⟨d1,d2,d3⟩:=zhn hs hj
    have:=g4 _ _ d1 d2
    rw[d3]at this;exact this
 ·obtain⟨d1,d2,d3⟩:=zhn hs hq
  have:=g1 _ _ d1 d2
  rw[d3]at this;exact this
section rules
variable {P:Program}{n:Nat}{env:Env}{H:Heap}{K:TK}{all:Array Oper}{rest:List Oper}{tab:Tab}
variable {d:Nat}{ty:TypeId}{pos:String}{aft:Array Edge}
theorem nextslicecap_le(need old:Nat)(h:old<need):Builtin.nextslicecap need old≤2*need+512\/Builtin.nextslicecap need old≤2*need:=by
 unfold Builtin.nextslicecap
 split
 ·right;omega
 ·split
  ·right;omega
  ·left
   rename_i h1 h2
   have key:∀(r c:Nat),c≤2*need->256≤c->Builtin.growBy need r c≤2*need+512:=by
    intro r
    induction r with
    | zero=>intro c hc _;simp[Builtin.growBy];omega
    | succ r ih=>
      intro c hc h256
      unfold Builtin.growBy
      split
      ·omega
      ·by_cases hq:c+(c+768) / 4≤2*need
       ·exact ih _ hq (by omega)
       ·have h3:c+(c+768) / 4≤2*need+512:=by omega
        have h4:need≤c+(c+768) / 4:=by omega
        cases r with
        | zero=>simpa [Builtin.growBy]using h3
        | succ r=>unfold Builtin.growBy;rw[if_pos h4];exact h3
   exact key 4 old (by omega) (by omega)
theorem znS(hT:zaw P tab){m:M}(hm:HRel m){t t' e:TypeId}{i i' ie:TyI}{sz id:Nat}{es ys:List T}{x y:Value}{ty:TypeId}(ht:tab.get t=some i)(hk:i.k= .slice e)(ht':tab.get t'=some i')(hk':i'.k= .slice e)(he:tab.get e=some ie)(hs:ie.size=sz)(hpos:0<sz)
  (hx:SRel m (.sl sz es id) x)(hH:m.H[id]?=some (.tail es.length))(hy:TRel m.A m.w (.sl sz ys) y)(hb:(es.length+ys.length)*ie.bytes≤70368744177664)(hb1:es.length+ys.length≤70368744177664)(hby:ie.bytes≤65536):
  ∃z m',(Builtin.append_ #[t,t'] ty #[x,y]).run P m.w= .ok z m'.w/\Step m m'/\HRel m'/\m'.H=m.H.set id (.tail (es.length+ys.length))/\SRel m' (.sl sz (es++ys) id) z:=by
 cases hx with
 | sl _ _ _ _ p hx hp ho=>
 obtain⟨_,ho2⟩:=ho _ (by rw[hH];rfl)
 obtain⟨ad,len,cap,rfl,hlc,hown⟩:=ho2 rfl
 have hlen:len=es.length:=by obtain⟨ad',cap',e⟩:=hx.zcf;cases e;rfl
 subst hlen
 obtain⟨ad2,cap2,rfl⟩:=hy.zcf
 obtain⟨g,hg,g1,g2,g3⟩:=zbZ (P:=P) hy hpos
 obtain⟨f,hf,f1,f2,f3⟩:=zbZ (P:=P) hx hpos
 obtain⟨ti,hti,hti1,hti2⟩:=(hT e ie he).info
 obtain⟨z,hz1,hz2,_,_⟩:=(hT e ie he).zero
 have hzl:z.cells.size=sz:=by
  exact zwdx
 by_cases hfit:es.length+ys.length≤cap
 ·have hrun:(Builtin.append_ #[t,t'] ty #[.slice ad es.length cap,.slice ad2 ys.length cap2]).run P m.w=
    (match ad with
      | none=>.ok (.slice none (es.length+ys.length) cap) m.w
      | some a=>((storeCells (a.add (es.length*sz)) ((List.range (ys.length*sz)).map g)).run P m.w).andThen fun _ w'=>.ok (.slice (some a) (es.length+ys.length) cap) w'):=by
   simp[Builtin.append_,underlying,(hT t i ht).slice hk,(hT t' i' ht').slice hk',(hT e ie he).sizeOf,hs,Builtin.lenOf,hfit,hg m.w rfl]
   cases ad <;> simp
  cases ad with
  | none=>
    obtain⟨h1,h2,h3⟩:=hown
    have hes:es=[]:=qaM h1
    have hys:ys=[]:=qaM (by omega)
    subst hes;subst hys;subst h2
    obtain⟨s,hm'⟩:=zh5 hm (n':=0+0) (p':=p) (A':=m.A) (w':=m.w) hp hH rfl rfl rfl (qae _) (fun _ _ _ _=>rfl) (fun _ _ _=>rfl) (fun _ _ _=>rfl) (fun _ _ _ h=>h) (fun _ _ h=>h) (fun _ _ h=>h) (fun _ _ h=>.inl h)
     (.inr (.inr (by omega))) (fun _ _ h h'=>absurd h h') (by intro o q1 q2;omega) (qaJ _) (fun _=>rfl)
    refine⟨_,⟨m.A,m.β.set id p,m.H.set id (.tail (0+0)),m.w⟩,hrun,s,hm',rfl,.sl _ _ _ _ p (.nil sz) (by show(m.β.set id p)[id]?=_;rw[qav (qaa.1 hp).1]) fun k hk=>?_⟩
    have hk':tlOf (m.H.set id (.tail (0+0)))[id]?=some k:=hk
    rw[qav (qaa.1 hH).1]at hk'
    cases hk'
    exact⟨qae _,fun _=>⟨none,0,0,rfl,qae _,rfl,rfl,h3⟩⟩
  | some a=>
    obtain⟨h1,h2,h3,h4⟩:=hown
    obtain⟨ab,ao,asp⟩:=a
    simp only at h1 h2 h3 h4
    subst h4;subst h1
    have hfree:=hm.blk id p _ hp hH
    have hmul:(es.length+ys.length)*sz≤cap*sz:=qaD _ hfit
    rw[qaX]at hmul
    have hst:=run_storeCells_cells (P:=P) p.b (ao+es.length*sz) ((List.range (ys.length*sz)).map g) 0 m.w (fun q hq=>(hfree _ (by omega) (by simp at hq;omega)).1) (fun q hq=>(hfree _ (by omega) (by simp at hq;omega)).2)
     (fun v hv=>by simp at hv;obtain⟨q,hq,rfl⟩:=hv;exact g1 q hq)
    obtain⟨e1,e2,e3,e4,e5,e6⟩:=zbV p.b ((List.range (ys.length*sz)).map g) (ao+es.length*sz) m.w
    have hout:∀b o,¬(b=p.b/\ao+es.length*sz≤o/\o<ao+es.length*sz+ys.length*sz)->(m.w.setCells p.b (ao+es.length*sz) ((List.range (ys.length*sz)).map g)).cell? ⟨b,o,none⟩=m.w.cell? ⟨b,o,none⟩:=by
     intro b o hn
     exact World.cell?_setCells_out _ _ _ _ _ fun q1 _=>by simp only[qab,List.length_range]at *;omega
    have hin:∀q,q<ys.length*sz->(m.w.setCells p.b (ao+es.length*sz) ((List.range (ys.length*sz)).map g)).cell? ⟨p.b,ao+es.length*sz+q,none⟩=some (g q):=by
     intro q hq
     have:=World.cell?_setCells_in p.b ((List.range (ys.length*sz)).map g) (ao+es.length*sz) m.w (fun j hj=>(hfree _ (by omega) (by simp at hj;omega)).1) q (by simpa using hq)
     simpa using this
    obtain⟨s,hm'⟩:=zh5 hm (n':=es.length+ys.length) (p':=⟨p.b,p.lo+ys.length*sz,p.hi⟩) (A':=fun b o=>m.A b o\/(b=p.b/\p.lo≤o/\o<p.lo+ys.length*sz)) (w':=m.w.setCells p.b (ao+es.length*sz) ((List.range (ys.length*sz)).map g)) hp hH e1 e2 e3 (by rw[e4];exact qae _)
     (fun b o _ hn=>hout b o (by omega)) (fun b o _=>World.frozen?_setCells _ _ _ _ _)
     (fun b _ hb=>by
       rcases hb with hb|hb
       ·exact e5 b hb
       ·have:ys.length*sz=0:=by omega
        rw[this];rfl)
     (fun b o _ h=>by
       by_cases hb:b=p.b
       ·subst hb;rw[e6];exact h
       ·rw[hout b o (by omega)];exact h)
     (fun b s hs=>by rw[zcC];exact hs) (fun _ _ h=>.inl h) (fun b o h=>by
       rcases h with h|h
       ·exact .inl h
       ·exact .inr (.inl (by omega)))
     (.inl ⟨rfl,by simp,qae _⟩) (fun b o h hna q=>by
       rcases h with h|h
       ·exact hna h
       ·simp only at q;omega)
     (fun o q1 q2=>by
       simp only at q1 q2
       have:=hfree o (by omega) q2
       unfold Free at this⊢
       rw[hout _ _ (by omega),World.frozen?_setCells];exact this) (by omega) (fun h=>by
       have:ys.length=0:=by omega
       rw[this];simp)
    refine⟨.slice (some ⟨p.b,ao,none⟩) (es.length+ys.length) cap,_,?_,s,hm',rfl,.sl _ _ _ _ ⟨p.b,p.lo+ys.length*sz,p.hi⟩ ?_ (by show(m.β.set id _)[id]?=_;rw[qav (qaa.1 hp).1]) fun k hk=>?_⟩
    ·rw[hrun]
     simp only[zbv]
     rw[hst];rfl
    ·have htr:=s.trel hm hx
     have hty:=s.trel hm hy
     rw[show es.length+ys.length=(es++ys).length from by simp]
     cases hx with
     | empty _ _=>
       have hys:ys=[]:=by simpa using hfit
       subst hys
       exact .empty sz _
     | sl _ _ _ _ _ f0 q1 q2 q3 q4 q5 q6=>
     have cellOld:∀i j,i<es.length->j<sz->(m.w.setCells p.b (ao+es.length*sz) ((List.range (ys.length*sz)).map g)).cell? ⟨p.b,ao+(i*sz+j),none⟩=some (f0 (i*sz+j)):=by
      intro i j hi hj
      have hlt:i*sz+j<es.length*sz:=by
       have:(i+1)*sz≤es.length*sz:=qaD _ hi
       rw[qaX]at this;omega
      rw[hout _ _ (by omega)];exact q4 i j hi hj
     refine .sl sz _ p.b ao cap (fun q=>if q<es.length*sz then f0 q else g (q-es.length*sz)) (by simp;omega) (fun i e he=>?_) (fun i j hi hj=>?_) (fun i j hi hj=>?_) (fun i j hi hj=>?_) (fun i e j c he hc=>?_)
     ·rcases zbw (sz:=sz) (j:=0) (qaa.1 he).1 with ⟨r1,r2⟩|⟨r1,r2,r3⟩
      ·exact q2 i e (r2 e he)
      ·exact g2 _ e (r3 e he)
     ·rcases zbw (sz:=sz) (j:=0) hi with ⟨r1,r2⟩|⟨r1,r2,r3⟩
      ·exact .inl (q3 i j r1 hj)
      ·right
       have h5:(i-es.length+1)*sz≤ys.length*sz:=qaD _ r2
       have h6:i*sz=es.length*sz+(i-es.length)*sz:=by rw[<-qaX];congr 1;omega
       rw[qaX]at h5
       exact⟨rfl,by omega,by omega⟩
     ·rcases zbw (sz:=sz) (j:=0) hi with ⟨r1,r2⟩|⟨r1,r2,r3⟩
      ·have hlt:i*sz+j<es.length*sz:=by
        exact zwef
       simp only[if_pos hlt];exact cellOld i j r1 hj
      ·have h5:(i-es.length+1)*sz≤ys.length*sz:=qaD _ r2
       have h6:i*sz=es.length*sz+(i-es.length)*sz:=by rw[<-qaX];congr 1;omega
       rw[qaX]at h5
       simp only[if_neg (show ¬i*sz+j<es.length*sz from by omega)]
       have:=hin ((i-es.length)*sz+j) (by omega)
       rw[show i*sz+j-es.length*sz=(i-es.length)*sz+j from by omega,show ao+(i*sz+j)=ao+es.length*sz+((i-es.length)*sz+j) from by omega]
       exact this
     ·rcases zbw (sz:=sz) (j:=0) hi with ⟨r1,r2⟩|⟨r1,r2,r3⟩
      ·have hlt:i*sz+j<es.length*sz:=by
        exact zwef
       simp only[if_pos hlt];exact q5 i j r1 hj
      ·have h5:(i-es.length+1)*sz≤ys.length*sz:=qaD _ r2
       have h6:i*sz=es.length*sz+(i-es.length)*sz:=by rw[<-qaX];congr 1;omega
       rw[qaX]at h5
       exact zwei
     ·have hi:=(qaa.1 he).1
      have hjl:=(qaa.1 hc).1
      rcases zbw (sz:=sz) (j:=0) hi with ⟨r1,r2⟩|⟨r1,r2,r3⟩
      ·have hjs:=q2 i e (r2 e he)
       have hlt:i*sz+j<es.length*sz:=by
        exact zwef
       simp only[if_pos hlt]
       exact s.trel hm (q6 i e j c (r2 e he) hc)
      ·exact zwx
    ·have hk':tlOf (m.H.set id (.tail (es.length+ys.length)))[id]?=some k:=hk
     rw[qav (qaa.1 hH).1]at hk'
     cases hk'
     refine⟨by simp,fun _=>⟨_,_,_,rfl,hfit,?_⟩⟩
     simp only
     rw[qaX]
     exact⟨trivial,by omega,by omega,trivial⟩
 ·have hbound:¬Builtin.nextslicecap (es.length+ys.length) cap*ti.bytes > 2 ^ 48:=by
   have h1:=nextslicecap_le (es.length+ys.length) cap (by omega)
   have h2:Builtin.nextslicecap (es.length+ys.length) cap≤2*(es.length+ys.length)+512:=by omega
   exact zwdq
  have hmax:¬(((es.length+ys.length:Nat):Int) > IntKind.i64.max/\(False\/ti.bytes=0)):=by
   exact zwey
  obtain⟨nc,hnc⟩:∃nc,nc=(Question.appendCap (es.length+ys.length) cap e).cut (m.w.tape m.w.drawn (.appendCap (es.length+ys.length) cap e)):=⟨_,rfl⟩
  have hnc2:es.length+ys.length≤nc:=by rw[hnc];simp[Question.cut]
  obtain⟨zr,hzr⟩:∃zr,zr=Builtin.zeroCells z.cells (nc-(es.length+ys.length)):=⟨_,rfl⟩
  have hzrl:zr.size=(nc-(es.length+ys.length))*sz:=by rw[hzr];simp[Builtin.zeroCells,hzl]
  obtain⟨cs,hcs⟩:∃cs:Array Value,cs=((List.range (es.length*sz)).map f).toArray++((List.range (ys.length*sz)).map g).toArray++zr:=⟨_,rfl⟩
  have hrun:(Builtin.append_ #[t,t'] ty #[.slice ad es.length cap,.slice ad2 ys.length cap2]).run P m.w=
    .ok (.slice (some ⟨m.w.heap.size,0,none⟩) (es.length+ys.length) nc) (({ m.w with drawn:=m.w.drawn+1 }:World).alloc (.cells cs e)):=by
   have hfo:(Question.appendCap (es.length+ys.length) cap e).forced=false:=rfl
   have hadd:(Builtin.append_ #[t,t'] ty #[.slice ad es.length cap,.slice ad2 ys.length cap2]).run P m.w=(((do
     let old <-Builtin.firstCells sz es.length (.slice ad es.length cap)
     let new <-Builtin.firstCells sz ys.length (.slice ad2 ys.length cap2)
     pure (.slice (some (<-newRow e (old++new++zr))) (es.length+ys.length) nc)):Sem Value).run P { m.w with drawn:=m.w.drawn+1 }):=by
    simp only[Builtin.append_]
    simp[underlying,(hT t i ht).slice hk,(hT t' i' ht').slice hk',(hT e ie he).sizeOf,hs,Builtin.lenOf,hfit,typeInfo,hti,hbound,hmax,hfo,<-hnc,hz1,<-hzr]
    intro h;exfalso;omega
   rw[hadd]
   simp[hf m.w.drew rfl,hg m.w.drew rfl,newRow]
   rw[hcs]
   congr 2
   rw[<-qbE]
  have hcsl:cs.size=nc*sz:=by
   have h1:(es.length+ys.length)*sz+(nc-(es.length+ys.length))*sz=nc*sz:=by rw[<-qaX];congr 1;omega
   rw[qaX]at h1
   rw[hcs];simp[hzrl];omega
  have hmul:es.length*sz+ys.length*sz≤nc*sz:=by rw[<-qaX];exact qaD _ hnc2
  have hcell:∀o,(m.w.drew.alloc (.cells cs e)).cell? ⟨m.w.heap.size,o,none⟩=cs[o]? :=fun o=>World.cell?_alloc_new (w:=m.w.drew) ..
  have hkeep:∀b,b<m.w.heap.size->(m.w.drew.alloc (.cells cs e)).heap[b]?=m.w.heap[b]? :=fun b hb=>RowKit.Below.heap_alloc m.w.drew _ _ hb
  have hsize:(m.w.drew.alloc (.cells cs e)).heap.size=m.w.heap.size+1:=by simp
  have hcf:∀q,q<es.length*sz->cs[q]?=some (f q):=fun q hq=>by
   rw[hcs,qbE,qa1 (by simpa using hq)];simp[hq]
  have hcg:∀q,q<ys.length*sz->cs[es.length*sz+q]?=some (g q):=fun q hq=>by
   rw[hcs,qbE,qbd (by simp),qa1 (by simpa using hq)];simp[hq]
  obtain⟨s,hm'⟩:=zh5 hm (n':=es.length+ys.length) (p':=⟨m.w.heap.size,(es.length+ys.length)*sz,nc*sz⟩) (A':=fun b o=>m.A b o\/(b=m.w.heap.size/\o<(es.length+ys.length)*sz)) (w':=m.w.drew.alloc (.cells cs e)) hp hH rfl rfl rfl (by rw[hsize];omega)
   (fun b o hb _=>zaO (hkeep b hb)) (fun b o hb=>zaY (hkeep b hb)) (fun b hb _=>hkeep b hb) (fun b o hb h=>by rw[zaO (hkeep b hb)];exact h) (fun b s hs=>by rw[zbE (hkeep b (zgW hs))];exact hs) (fun _ _ h=>.inl h)
   (fun b o h=>by
     rcases h with h|h
     ·exact .inl h
     ·exact .inr (.inr (by rw[hsize];omega)))
   (.inr (.inl (by rw[hsize];exact⟨qae _,qbD _⟩))) (fun b o h hna q=>by
     rcases h with h|h
     ·exact hna h
     ·simp only at q;omega)
   (fun o q1 q2=>by
     simp only at q1 q2
     refine⟨?_,World.frozen?_alloc_new (w:=m.w.drew) ..⟩
     show((m.w.drew.alloc (.cells cs e)).cell? ⟨m.w.heap.size,o,none⟩).isSome=true
     rw[hcell,qam (by omega)];rfl) (by omega) (fun h=>by
     exfalso
     have hy0:ys.length=0:=by omega
     omega)
  refine⟨.slice (some ⟨m.w.heap.size,0,none⟩) (es.length+ys.length) nc,_,hrun,s,hm',rfl,.sl _ _ _ _ ⟨m.w.heap.size,(es.length+ys.length)*sz,nc*sz⟩ ?_ (by show(m.β.set id _)[id]?=_;rw[qav (qaa.1 hp).1]) fun k hk=>?_⟩
  ·have bnd:∀i j (l:List T),i<l.length->j<sz->i*sz+j<l.length*sz:=by
    intro i j l hi hj
    have:(i+1)*sz≤l.length*sz:=qaD _ hi
    rw[qaX]at this;omega
   have val:∀i j,i<(es++ys).length->j<sz->cs[i*sz+j]?=some (if i*sz+j<es.length*sz then f (i*sz+j) else g (i*sz+j-es.length*sz)):=by
    intro i j hi hj
    rcases zbw (sz:=sz) (j:=0) hi with ⟨r1,r2⟩|⟨r1,r2,r3⟩
    ·have:=bnd i j es r1 hj
     rw[if_pos this,hcf _ this]
    ·have h5:=bnd (i-es.length) j ys r2 hj
     have h6:i*sz=es.length*sz+(i-es.length)*sz:=by rw[<-qaX];congr 1;omega
     rw[if_neg (by omega),show i*sz+j-es.length*sz=(i-es.length)*sz+j from by omega,<-hcg _ h5]
     congr 1;omega
   have key:TRel (fun b o=>m.A b o\/(b=m.w.heap.size/\o<(es.length+ys.length)*sz)) (m.w.drew.alloc (.cells cs e)) (.sl sz (es++ys)) (.slice (some ⟨m.w.heap.size,0,none⟩) (es++ys).length nc):=by
    refine .sl sz _ m.w.heap.size 0 nc (fun q=>if q<es.length*sz then f q else g (q-es.length*sz)) (by simp;omega) (fun i e he=>?_) (fun i j hi hj=>?_) (fun i j hi hj=>?_) (fun i j hi hj=>?_) (fun i e j c he hc=>?_)
    ·rcases zbw (sz:=sz) (j:=0) (qaa.1 he).1 with ⟨r1,r2⟩|⟨r1,r2,r3⟩
     ·exact f2 i e (r2 e he)
     ·exact g2 _ e (r3 e he)
    ·refine .inr ⟨rfl,?_⟩
     have:=bnd i j _ hi hj
     simp at this⊢;exact this
    ·rw[qaU]
     show(m.w.drew.alloc (.cells cs e)).cell? _=_
     rw[hcell,val i j hi hj]
    ·rcases zbw (sz:=sz) (j:=0) hi with ⟨r1,r2⟩|⟨r1,r2,r3⟩
     ·have:=bnd i j es r1 hj
      simp only[if_pos this];exact f1 _ this
     ·have h5:=bnd (i-es.length) j ys r2 hj
      have h6:i*sz=es.length*sz+(i-es.length)*sz:=by rw[<-qaX];congr 1;omega
      exact zwei
    ·have hi:=(qaa.1 he).1
     have hjl:=(qaa.1 hc).1
     rcases zbw (sz:=sz) (j:=0) hi with ⟨r1,r2⟩|⟨r1,r2,r3⟩
     ·have hjs:=f2 i e (r2 e he)
      have:=bnd i j es r1 (by omega)
      simp only[if_pos this]
      exact s.trel hm (f3 i e j c (r2 e he) hc)
     ·exact zwx
   rw[qad]at key
   exact key
  ·have hk':tlOf (m.H.set id (.tail (es.length+ys.length)))[id]?=some k:=hk
   rw[qav (qaa.1 hH).1]at hk'
   cases hk'
   refine⟨by simp,fun _=>⟨_,_,_,rfl,hnc2,?_⟩⟩
   simp
theorem TO.append(hT:zaw P tab){t t' e:TypeId}{i i' ie:TyI}{sz id:Nat}{es ys:List T}{x y:Operand}{vy:SV}{H':Heap}(hd:Nat.ble (d+1) n=true)(ht:tab.get t=some i)(hk:i.k= .slice e)(ht':tab.get t'=some i')(hk':i'.k= .slice e)
  (he:tab.get e=some ie)(hs:ie.size=sz)(hpos:0<sz)(hx:env.val x=some (.sl sz es id))(hH:H[id]?=some (.tail es.length))(hy:env.val y=some vy)(hvy:vy.elems sz=some ys)
  (hby:ie.bytes≤65536)(hb:(es.length+ys.length)*ie.bytes≤70368744177664)(hb1:es.length+ys.length≤70368744177664)(hH':H.set id (.tail (es.length+ys.length))=H')
  (k:TO false P n all rest ((d,.sl sz (es++ys) id)::env) H' K):TO false P n all (⟨some d,.call { callee:=.builtin .append,args:=#[x,y],argTypes:=#[t,t'] },ty,pos,aft,none⟩::rest) env H K:=
 TO.eff hd (fun m ac h1 h2 h3=>by
  obtain⟨z,m',r1,s,hm',hHm,hr⟩:=znS (P:=P) hT h2 (ty:=ty) ht hk ht' hk' he hs hpos (h3.val hx) (by rw[h1];exact hH) ((h3.val hy).elems hvy) hb hb1 hby
  exact⟨z,m',by simp[execOp,resolve,invoke,builtin,r1],s,hm',by rw[hHm,h1];exact hH',hr⟩) k
theorem zky{m:M}(hm:HRel m):Step m ⟨m.A,m.β++[⟨0,0,0⟩],m.H++[.tail 0],m.w⟩/\HRel ⟨m.A,m.β++[⟨0,0,0⟩],m.H++[.tail 0],m.w⟩:=by
 refine grow hm (A':=m.A) rfl rfl rfl (qae _) (fun _ _=>rfl) (fun _ _ h=>h) (fun _ _ h=>.inl h) rfl ?_ ?_ (fun _ _ h h'=>absurd h h') ?_
 ·exact zwdu
 ·exact zwfk
 ·intro s i p k h1 h2
  cases i with
  | zero=>simp at h1 h2;subst h1;subst h2;intro o q1 q2;simp at q2
  | succ i=>simp at h1
theorem znp{m:M}(hm:HRel m)(sz:Nat):SRel ⟨m.A,m.β++[⟨0,0,0⟩],m.H++[.tail 0],m.w⟩ (.sl sz [] m.H.length) (.slice none 0 0):=by
 refine .sl sz [] _ _ ⟨0,0,0⟩ (.nil sz) (by simp[<-hm.len]) fun k hk=>?_
 have hk':tlOf (m.H++[Blk.tail 0])[m.H.length]?=some k:=hk
 simp[tlOf]at hk'
 subst hk'
 exact⟨qae _,fun _=>⟨none,0,0,rfl,qae _,rfl,rfl,rfl⟩⟩
theorem TR.tail{c:Code}(sz i:Nat)(hi:env.look i=some (.t (.v (.slice none 0 0))))(k:TR P n c ((i,.sl sz [] H.length)::env) (H++[.tail 0]) K):TR P n c env H K:=by
 intro φ m a h1 h2 h3 h4
 obtain⟨x,hx1,hx2⟩:=h3.2 i _ hi
 have:=hx2.v_eq
 subst this
 obtain⟨s,hm'⟩:=zky h2
 refine zbk (k φ ⟨m.A,m.β++[⟨0,0,0⟩],m.H++[.tail 0],m.w⟩ a (by rw[h1]) hm' ⟨h3.1,fun j v hv=>?_⟩ h4) fun _ _ _ hp=>hp.step s
 by_cases hj:i=j
 ·subst hj
  rw[Env.zat]at hv
  cases hv
  exact⟨_,hx1,h1 ▸ znp h2 sz⟩
 ·exact zwfl
end rules
end Go.TL
