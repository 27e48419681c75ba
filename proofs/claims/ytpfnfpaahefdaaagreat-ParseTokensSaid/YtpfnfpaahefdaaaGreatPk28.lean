import Derived.ProofKit
import Derived.OpenShut
import Derived.Test.YtpfnfpaahefdaaaGreatPk27
set_option linter.all false
namespace Go.TL
open Go
variable {Hh:Type}{enc:TypeId×Value->Hh}{P:Program}
def aggB(P:Program)(t:TypeId):Bool:=
 match P.underlying t with
 | some (.struct _)=>true
 | _=>false
def zcs(P:Program)(l:List TypeId):Bool:=l.all fun t=>match P.underlying t with
 | some .bool|some (.int _)|some .string=>P.cellsOf t == 1
 | some (.slice e)=>P.cellsOf t == 1 && l.contains e && Nat.blt 0 (P.cellsOf e)
 | some (.struct fs)=>fs.toList.all fun f=>l.contains f.type
 | _=>false
def mkT(agg:Bool)(ts:List T):T:=bif agg then .ag ts else ts.headD (.v undef)
def TyD(P:Program):Nat->TypeId->DataW Hh->List T->Prop
 | 0,_,_,_=>False
 | n+1,t,d,ts=>match P.underlying t with
   | some .bool=>∃b,d= .lit (.bool b)/\ts=[.v (.bool b)]
   | some (.int k)=>∃i,d= .lit (.int k i)/\ts=[.v (.int k i)]/\(Lit.int k i).wf=true
   | some .string=>∃l:List UInt8,d= .lit (.string l)/\ts=[.v (str l)]/\l.length≤maxLen
   | some (.slice e)=>∃(els sp:List (DataW Hh)) (es:List T),((d= .nil/\els=[])\/d= .slice els sp)/\ts=[.sl (P.cellsOf e) es]/\es.length=els.length/\es.length≤maxLen/\
      ∀(i:Nat) x y,els[i]?=some x->es[i]?=some y->y=mkT (aggB P e) y.cells/\TyD P n e x y.cells
   | some (.struct fs)=>∃xs:List (DataW Hh),d= .agg xs/\ts.length=P.cellsOf t/\xs.length=fs.size/\∀(i:Nat) f x,fs[i]?=some f->xs[i]?=some x->TyD P n f.type x ((ts.drop f.offset).take (P.cellsOf f.type))
   | _=>False
theorem zce{l:List TypeId}(hl:zcs P l=true){t:TypeId}(ht:t∈l)(ha:aggB P t=false):P.cellsOf t=1:=by
 have:=qaw.1 hl t ht
 unfold aggB at ha
 split at this <;> simp_all
theorem zpp{w:World}{b o:Nat}{y:Value}(h:w.cell? ⟨b,o,none⟩=some y):b<w.heap.size:=by
 unfold World.cell? at h
 cases hq:w.heap[b]? with
 | none=>rw[hq]at h;cases h
 | some ob=>exact(qaj.1 hq).1
theorem zf7{A:Foot}{w:World}{n:Nat}{cs:List Value}:∀(gs:List Field) (xs:List (DataW Hh)) (o:Nat),(∀(j:Nat) g,gs[j]?=some g->g.offset=o+((gs.take j).map fun f=>P.cellsOf f.type).sum)->o+(gs.map fun f=>P.cellsOf f.type).sum≤cs.length->
  xs.length=gs.length->(∀(j:Nat) g x,gs[j]?=some g->xs[j]?=some x->∃ts:List T,ts.length=((cs.drop g.offset).take (P.cellsOf g.type)).length/\(∀(i:Nat) c y,ts[i]?=some c->((cs.drop g.offset).take (P.cellsOf g.type))[i]?=some y->TRel A w c y)/\TyD P n g.type x ts)->
  ∃ts:List T,ts.length=(gs.map fun f=>P.cellsOf f.type).sum/\(∀(i:Nat) c y,ts[i]?=some c->cs[o+i]?=some y->TRel A w c y)/\(∀(j:Nat) g x,gs[j]?=some g->xs[j]?=some x->TyD P n g.type x ((ts.drop (g.offset-o)).take (P.cellsOf g.type)))
 | [],xs,o,_,_,hx,_=>⟨[],rfl,by simp,by simp⟩
 | g::gs,xs,o,ho,hl,hx,hf=>by
   cases xs with
   | nil=>simp at hx
   | cons x xs=>
     have h0:g.offset=o:=by simpa using ho 0 g rfl
     simp only[qah,qax]at hl
     obtain⟨t0,a1,a2,a3⟩:=hf 0 g x rfl rfl
     have a1':t0.length=P.cellsOf g.type:=by rw[a1,h0];simp;omega
     obtain⟨ts,b1,b2,b3⟩:=zf7 gs xs (o+P.cellsOf g.type) (fun j f hj=>by
      have:=ho (j+1) f (by simpa using hj)
      simp only[qbA,qah,qax]at this
      omega) (by omega) (by simpa using hx) (fun j f y hj hy=>hf (j+1) f y (by simpa using hj) (by simpa using hy))
     refine⟨t0++ts,by simp[a1',b1],fun i c y hc hy=>?_,fun j f y hj hy=>?_⟩
     ·by_cases hi:i<t0.length
      ·rw[qao hi]at hc
       refine a2 i c y hc ?_
       rw[qaN,if_pos (by omega),qaW,h0];exact hy
      ·rw[qaq (by omega)]at hc
       refine b2 _ c y hc ?_
       rw[show o+P.cellsOf g.type+(i-t0.length)=o+i from by omega];exact hy
     ·cases j with
      | zero=>
        simp at hj hy
        subst hj;subst hy
        rw[h0,qcl,qb7,<-a1',qch]
        exact a3
      | succ j=>
        have hj':gs[j]?=some f:=by simpa using hj
        have:=ho (j+1) f hj
        simp only[qbA,qah,qax]at this
        have hd:(t0++ts).drop (f.offset-o)=ts.drop (f.offset-(o+P.cellsOf g.type)):=by
         rw[show f.offset-o=t0.length+(f.offset-(o+P.cellsOf g.type)) from by omega,List.drop_append,qbp (by omega),qbk,Nat.add_sub_cancel_left]
        rw[hd]
        exact b3 j f y hj' (by simpa using hy)
theorem zkq:∀(gs:List Field) (o i:Nat),(∀(j:Nat) g,gs[j]?=some g->g.offset=o+((gs.take j).map fun f=>P.cellsOf f.type).sum)->o≤i->i<o+(gs.map fun f=>P.cellsOf f.type).sum->∃(j:Nat) (g:Field),gs[j]?=some g/\g.offset≤i/\i<g.offset+P.cellsOf g.type
 | [],o,i,_,h1,h2=>by simp at h2;omega
 | g::gs,o,i,ho,h1,h2=>by
   have h0:g.offset=o:=by simpa using ho 0 g rfl
   simp only[qah,qax]at h2
   by_cases hi:i<o+P.cellsOf g.type
   ·exact⟨0,g,rfl,by omega,by omega⟩
   ·obtain⟨j,f,hj,h3⟩:=zkq gs (o+P.cellsOf g.type) i (fun j f hj=>by
     have:=ho (j+1) f (by simpa using hj)
     simp only[qbA,qah,qax]at this
     omega) (by omega) (by omega)
    exact⟨j+1,f,by simpa using hj,h3⟩
theorem zlO{w:World}{base:Nat}{held:Bool}{l:List TypeId}(hl:zcs P l=true)(hK:∀t∈l,∀fs:Array Field,P.underlying t=some (.struct fs)->P.cellsOf t=(fs.toList.map fun f=>P.cellsOf f.type).sum/\∀(j:Nat) f,fs.toList[j]?=some f->f.offset=((fs.toList.take j).map fun f=>P.cellsOf f.type).sum):∀(n:Nat) (t:TypeId) (cs:List Value) (d:DataW Hh) (ps:List MemPlace),t∈l->DataW.trod enc P w base (fun _=>true) held n t cs=some (d,ps)->
  ∃ts:List T,ts.length=cs.length/\(∀(i:Nat) x,cs[i]?=some x->x.oneCell'=true)/\(∀(i:Nat) c x,ts[i]?=some c->cs[i]?=some x->TRel (fun b _=>b<w.heap.size) w c x)/\TyD P n t d ts:=by
 intro n
 induction n with
 | zero=>intro t cs d ps ht h;simp[DataW.trod]at h
 | succ n ih=>
   intro t cs d ps ht h
   have hp:=qaw.1 hl t ht
   have one:∀(x:Value) (c:T),x.oneCell'=true->TRel (fun b _=>b<w.heap.size) w c x->(∀(i:Nat) y,[x][i]?=some y->y.oneCell'=true)/\(∀(i:Nat) c' y,[c][i]?=some c'->[x][i]?=some y->TRel (fun b _=>b<w.heap.size) w c' y):=by
    intro x c hx hr
    refine⟨fun i y hy=>?_,fun i c' y hc hy=>?_⟩
    ·cases i with
     | zero=>simp at hy;subst hy;exact hx
     | succ i=>simp at hy
    ·cases i with
     | zero=>simp at hy hc;subst hy;subst hc;exact hr
     | succ i=>simp at hy
   cases hu:P.underlying t with
   | none=>rw[hu]at hp;cases hp
   | some td=>
     rw[hu]at hp
     cases td with
     | bool=>
       obtain⟨b,rfl,hx⟩:=DataW.trod_bool hu h
       cases hx
       obtain⟨o1,o2⟩:=one (.bool b) (.v (.bool b)) rfl (.v _)
       exact⟨[.v (.bool b)],rfl,o1,o2,by simp only[TyD,hu];exact⟨b,rfl,rfl⟩⟩
     | int k=>
       obtain⟨i,rfl,hx,hwf⟩:=DataW.trod_int hu h
       cases hx
       obtain⟨o1,o2⟩:=one (.int k i) (.v (.int k i)) rfl (.v _)
       exact⟨[.v (.int k i)],rfl,o1,o2,by simp only[TyD,hu];exact⟨i,rfl,rfl,hwf⟩⟩
     | string=>
       obtain⟨s,rfl,hx,hlen⟩:=DataW.trod_string hu h
       cases hx
       obtain⟨a⟩:=s
       obtain⟨o1,o2⟩:=one (.string ⟨a⟩) (.v (str a.toList)) rfl (.v _)
       exact⟨[.v (str a.toList)],rfl,o1,o2,by simp only[TyD,hu];exact⟨a.toList,rfl,rfl,hlen⟩⟩
     | slice e=>
       simp only[qat,qbO,beq_iff_eq]at hp
       obtain⟨⟨_,he⟩,hpos⟩:=hp
       have hpos':0<P.cellsOf e:=by simpa [qa3]using hpos
       rcases DataW.trod_slice hu h with ⟨rfl,hx⟩|⟨a,len,cap,elems,rest,n',hn,rfl,hx,hb,hlc,hcm,hel,hat,hsp,_⟩
       ·cases hx
        obtain⟨o1,o2⟩:=one (.slice none 0 0) (.sl (P.cellsOf e) []) rfl (.nil _)
        exact⟨[.sl (P.cellsOf e) []],rfl,o1,o2,by simp only[TyD,hu];exact⟨[],[],[],by simp,rfl,rfl,qaV _,by simp⟩⟩
       ·cases hn
        cases hx
        have hev:∀i,i<len->∃(cs':List Value) (x:DataW Hh×List MemPlace) (ts:List T),w.cells? base (a.add (i*P.cellsOf e)) (P.cellsOf e)=some cs'/\elems[i]?=some x/\ts.length=cs'.length/\(∀(j:Nat) y,cs'[j]?=some y->y.oneCell'=true)/\
          (∀(j:Nat) c y,ts[j]?=some c->cs'[j]?=some y->TRel (fun b _=>b<w.heap.size) w c y)/\TyD P n e x.1 ts:=by
         intro i hi
         have hx:elems[i]?=some (elems[i]'(by omega)):=qab _
         have:=hat i hi
         rw[hx,qan]at this
         obtain⟨cs',h1,h2⟩:=this
         obtain⟨ts,g1,g2,g3,g4⟩:=ih e cs' _ _ he h2
         exact⟨cs',_,ts,h1,hx,g1,g2,g3,g4⟩
        have hspot:0<cap->a.spot=none:=by
         intro hc
         have key:∃i cs',i<cap/\i=0/\w.cells? base (a.add (i*P.cellsOf e)) (P.cellsOf e)=some cs':=by
          by_cases hl0:0<len
          ·obtain⟨cs',_,_,h1,_⟩:=hev 0 hl0
           exact⟨0,cs',hc,rfl,h1⟩
          ·have hlen:len=0:=by omega
           obtain⟨h1,h2⟩:=hsp rfl
           have hr:rest[0]?=some (rest[0]'(by omega)):=qab _
           have:=h2 0 (by omega)
           rw[hr,qan]at this
           obtain⟨cs',h3,_⟩:=this
           exact⟨0,cs',hc,rfl,by rw[hlen]at h3;simpa using h3⟩
         obtain⟨i,cs',_,rfl,h1⟩:=key
         obtain⟨_,_,h3⟩:=World.cells?_some h1
         obtain⟨_,h4,_⟩:=World.cells?_some h1
         have h5:=h3 0 hpos'
         have h6:cs'[0]?=some (cs'[0]'(by omega)):=qab _
         rw[h6]at h5
         simp only[qcm,Addr.add,if_true]at h5
         unfold World.cell? at h5
         split at h5
         ·split at h5
          ·cases h5
          ·rename_i hs;simpa using hs
         ·cases h5
        by_cases hcap0:cap=0
        ·subst hcap0
         have hl0:len=0:=by omega
         subst hl0
         have he0:elems=[]:=qay hel
         subst he0
         obtain⟨o1,o2⟩:=one (.slice (some a) 0 0) (.sl (P.cellsOf e) []) rfl (.empty _ _)
         exact⟨[.sl (P.cellsOf e) []],rfl,o1,o2,by simp only[TyD,hu];exact⟨[],_,[],.inr rfl,rfl,rfl,qaV _,by simp⟩⟩
        obtain⟨ab,ao,asp⟩:=a
        have has:=hspot (by omega)
        simp only at has
        subst has
        have hex:∀i,∃ts:List T,i<len->∃(cs':List Value) (x:DataW Hh×List MemPlace),w.cells? base ((⟨ab,ao,none⟩:Addr).add (i*P.cellsOf e)) (P.cellsOf e)=some cs'/\elems[i]?=some x/\ts.length=cs'.length/\(∀(j:Nat) y,cs'[j]?=some y->y.oneCell'=true)/\
          (∀(j:Nat) c y,ts[j]?=some c->cs'[j]?=some y->TRel (fun b _=>b<w.heap.size) w c y)/\TyD P n e x.1 ts:=by
         intro i
         by_cases hi:i<len
         ·obtain⟨cs',x,ts,h⟩:=hev i hi
          exact⟨ts,fun _=>⟨cs',x,h⟩⟩
         ·exact⟨[],fun h=>absurd h hi⟩
        obtain⟨f,hf⟩:=qbh hex
        have hfl:∀i,i<len->(f i).length=P.cellsOf e:=by
         intro i hi
         obtain⟨cs',x,h1,h2,h3,_⟩:=hf i hi
         obtain⟨_,h4,_⟩:=World.cells?_some h1
         omega
        have hmk:∀i,i<len->(mkT (aggB P e) (f i)).cells=f i:=by
         intro i hi
         unfold mkT
         cases ha:aggB P e with
         | true=>rfl
         | false=>
           have h1:=hfl i hi
           rw[zce hl he ha]at h1
           match hfi:f i,h1 with
           | [c],_=>
             obtain⟨cs',x,g1,g2,g3,g4,g5,g6⟩:=hf i hi
             rw[hfi]at g6
             have:∀l,c≠ .ag l:=by
              intro l hc
              subst hc
              cases n with
              | zero=>exact g6
              | succ n=>
                have hpe:=qaw.1 hl e he
                unfold aggB at ha
                simp only[TyD]at g6
                split at g6 <;> simp_all
             cases c with
             | ag l=>exact absurd rfl (this l)
             | _=>rfl
        have hcell:∀i j,i<len->j<P.cellsOf e->∃y,w.cell? ⟨ab,ao+(i*P.cellsOf e+j),none⟩=some y/\y.oneCell'=true/\∀c,(f i)[j]?=some c->TRel (fun b _=>b<w.heap.size) w c y:=by
         intro i j hi hj
         obtain⟨cs',x,g1,g2,g3,g4,g5,g6⟩:=hf i hi
         obtain⟨_,h4,h5⟩:=World.cells?_some g1
         have h6:=h5 j hj
         have h7:cs'[j]?=some (cs'[j]'(by omega)):=qab _
         rw[h7,zbE,zbE,qaY]at h6
         exact⟨_,h6,g4 j _ h7,fun c hc=>g5 j c _ hc h7⟩
        obtain⟨es,hes⟩:∃es:List T,es=(List.range len).map fun i=>mkT (aggB P e) (f i):=⟨_,rfl⟩
        have hesl:es.length=len:=by rw[hes];simp
        have heg:∀(i:Nat) y,es[i]?=some y->i<len/\y=mkT (aggB P e) (f i):=by
         intro i y hy
         have hi:=(qaa.1 hy).1
         rw[hesl]at hi
         refine⟨hi,?_⟩
         rw[hes]at hy
         simp[hi]at hy
         exact hy.symm
        have hrel:TRel (fun b _=>b<w.heap.size) w (.sl (P.cellsOf e) es) (.slice (some ⟨ab,ao,none⟩) es.length cap):=by
         have dm:∀i j,j<P.cellsOf e->(i*P.cellsOf e+j) / P.cellsOf e=i/\(i*P.cellsOf e+j) % P.cellsOf e=j:=fun i j hj=>by
          rw[qck]
          exact⟨by rw[Nat.mul_add_div hpos',Nat.div_eq_of_lt hj];rfl,by rw[Nat.mul_add_mod,Nat.mod_eq_of_lt hj]⟩
         refine .sl _ es ab ao cap (fun q=>(w.cell? ⟨ab,ao+q,none⟩).getD undef) (by omega) (fun i y hy=>?_) (fun i j hi hj=>?_) (fun i j hi hj=>?_) (fun i j hi hj=>?_) (fun i y j c hy hc=>?_)
         ·obtain⟨hi,rfl⟩:=heg i y hy
          rw[hmk i hi,hfl i hi]
         ·obtain⟨y,h1,_⟩:=hcell i j (by omega) hj
          exact zpp h1
         ·obtain⟨y,h1,_⟩:=hcell i j (by omega) hj
          rw[h1];rfl
         ·obtain⟨y,h1,h2,_⟩:=hcell i j (by omega) hj
          simp only[h1];exact h2
         ·obtain⟨hi,rfl⟩:=heg i y hy
          rw[hmk i hi]at hc
          have hj:j<P.cellsOf e:=by rw[<-hfl i hi];exact(qaa.1 hc).1
          obtain⟨y,h1,h2,h3⟩:=hcell i j hi hj
          simp only[h1];exact h3 c hc
        rw[hesl]at hrel
        obtain⟨o1,o2⟩:=one (.slice (some ⟨ab,ao,none⟩) len cap) (.sl (P.cellsOf e) es) rfl hrel
        refine⟨[.sl (P.cellsOf e) es],rfl,o1,o2,?_⟩
        simp only[TyD,hu]
        refine⟨elems.map (·.1),rest.map (·.1),es,.inr rfl,rfl,by rw[hesl,qad,hel],by omega,fun i x y hx hy=>?_⟩
        obtain⟨hi,rfl⟩:=heg i y hy
        rw[hmk i hi]
        refine⟨rfl,?_⟩
        obtain⟨cs',x',g1,g2,g3,g4,g5,g6⟩:=hf i hi
        rw[qar,g2]at hx
        cases hx
        exact g6
     | struct fs=>
       obtain⟨xs,n',hn,hx,hlen,hxl,hat⟩:=DataW.trod_struct hu h
       cases hn
       cases hx
       have hpf:∀f∈fs.toList,f.type∈l:=by
        intro f hf
        simpa using qaw.1 hp f hf
       obtain⟨hk1,hk2⟩:=hK t ht fs hu
       have hfield:∀(j:Nat) g,fs.toList[j]?=some g->∃x,xs[j]?=some x/\DataW.trod enc P w base (fun _=>true) held n g.type ((cs.drop g.offset).take (P.cellsOf g.type))=some x:=by
        intro j g hg
        have hj:=(qaa.1 hg).1
        have hx:xs[j]?=some (xs[j]'(by simp at hj;omega)):=qab _
        exact⟨_,hx,by rw[hat j g (by simpa using hg),hx]⟩
       obtain⟨ts,g1,g2,g3⟩:=zf7 (A:=fun b _=>b<w.heap.size) (w:=w) (n:=n) (cs:=cs) (P:=P) fs.toList (xs.map (·.1)) 0 (fun j g hg=>by rw[qaM];exact hk2 j g hg) (by omega) (by simpa using hxl) (fun j g x hg hx=>by
        obtain⟨x',h1,h2⟩:=hfield j g hg
        rw[qar,h1]at hx
        cases hx
        obtain⟨ts,e1,e2,e3,e4⟩:=ih g.type _ x'.1 x'.2 (hpf g (qaB hg)) h2
        exact⟨ts,e1,e3,e4⟩)
       refine⟨ts,by omega,fun i x hi=>?_,fun i c x hc hx=>g2 i c x hc (by rw[qaM];exact hx),?_⟩
       ·obtain⟨j,g,hj,hoi,hoi2⟩:=zkq (P:=P) fs.toList 0 i (fun j g hg=>by rw[qaM];exact hk2 j g hg) (qaV _) (by have:=(qaa.1 hi).1;omega)
        obtain⟨x',h1,h2⟩:=hfield j g hj
        obtain⟨ts',e1,e2,e3,e4⟩:=ih g.type _ x'.1 x'.2 (hpf g (qaB hj)) h2
        refine e2 (i-g.offset) x ?_
        rw[qaN,if_pos (by omega),qaW,show g.offset+(i-g.offset)=i from by omega];exact hi
       ·simp only[TyD,hu]
        refine⟨xs.map (·.1),rfl,by omega,by rw[qad];exact hxl,fun i f x hf hx=>?_⟩
        have:=g3 i f x (by simpa using hf) hx
        simpa using this
     | _=>cases hp
def Fits(P:Program):List TypeId->List (DataW Hh)->List T->Prop
 | [],[],[]=>True
 | t::ts,d::ds,y::ys=>(y=mkT (aggB P t) y.cells/\∃n,TyD P n t d y.cells)/\Fits P ts ds ys
 | _,_,_=>False
theorem zlL{w:World}{r:Reach}{base:Nat}{t:TypeId}{v:Value}(h:Value.okWide P w r base t v){l:List TypeId}(hl:zcs P l=true)(ht:t∈l)(ha:aggB P t=false):v.cells= #[v]:=by
 have:=qaw.1 hl t ht
 unfold aggB at ha
 unfold Value.okWide at h
 split at this <;> simp_all
 all_goals
  rename_i hu
  cases v <;> first|rfl|(simp[Cell.okWide,Cell.ok,hu]at h)
theorem znA{l:List TypeId}(hl:zcs P l=true){n:Nat}{t:TypeId}{d:DataW Hh}{ts:List T}(ht:t∈l)(h:TyD P n t d ts)(hlen:ts.length=P.cellsOf t):(mkT (aggB P t) ts).cells=ts:=by
 unfold mkT
 cases ha:aggB P t with
 | true=>rfl
 | false=>
   rw[zce hl ht ha]at hlen
   match ts,hlen with
   | [c],_=>
     have:∀l,c≠ .ag l:=by
      intro l hc
      subst hc
      cases n with
      | zero=>exact h
      | succ n=>
        have hpe:=qaw.1 hl t ht
        unfold aggB at ha
        simp only[TyD]at h
        split at h <;> simp_all
     cases c with
     | ag l=>exact absurd rfl (this l)
     | _=>rfl
theorem zib{w:World}{base:Nat}{l:List TypeId}(hl:zcs P l=true)(hK:∀t∈l,∀fs:Array Field,P.underlying t=some (.struct fs)->P.cellsOf t=(fs.toList.map fun f=>P.cellsOf f.type).sum/\∀(j:Nat) f,fs.toList[j]?=some f->f.offset=((fs.toList.take j).map fun f=>P.cellsOf f.type).sum):
  ∀(ts:List TypeId) (vs:List Value) (ds:List (DataW Hh)) (ps:List MemPlace),(∀t∈ts,t∈l)->DataW.TrodAll enc P w 0 (fun _=>true) true ts vs ds ps->(∀(j:Nat) t v,ts[j]?=some t->vs[j]?=some v->Value.okWide P w .any base t v)->
  ∃ys:List T,Fits P ts ds ys/\ys.length=vs.length/\∀(i:Nat) y x,ys[i]?=some y->vs[i]?=some x->TRel (fun b _=>b<w.heap.size) w y x
 | [],vs,ds,ps,_,h,_=>by
   cases vs <;> cases ds <;> simp[DataW.TrodAll]at h
   exact⟨[],trivial,rfl,by simp⟩
 | t::ts,vs,ds,ps,ht,h,hok=>by
   obtain⟨v,vs',d,ds',p,q,rfl,rfl,rfl,h1,h2⟩:=ChangeShapes.trodAll_cons h
   have htl:=ht t qaC
   obtain⟨fuel,h1⟩:=h1
   obtain⟨tr,g1,g2,g3,g4⟩:=zlO hl hK fuel t _ d p htl h1
   obtain⟨ys,k1,k2,k3⟩:=zib hl hK ts vs' ds' q (fun t h=>ht t (qaA _ h)) h2 (fun j t v a b=>hok (j+1) t v (by simpa using a) (by simpa using b))
   have hv:=hok 0 t v rfl rfl
   have hrel:TRel (fun b _=>b<w.heap.size) w (mkT (aggB P t) tr) v/\(mkT (aggB P t) tr).cells=tr:=by
    cases ha:aggB P t with
    | true=>
      have:∃cs,v= .agg cs:=by
       unfold aggB at ha
       unfold Value.okWide at hv
       split at ha
       ·rename_i hu
        rw[hu]at hv
        obtain⟨cs,rfl,_⟩:=hv
        exact⟨cs,rfl⟩
       ·cases ha
      obtain⟨cs,rfl⟩:=this
      refine⟨?_,rfl⟩
      exact .ag tr cs (by simpa [Value.cells]using g1.symm) (fun i y hy=>g2 i y (by simpa [Value.cells]using hy)) (fun i c y hc hy=>g3 i c y hc (by simpa [Value.cells]using hy))
    | false=>
      have hc:=zlL hv hl htl ha
      have hc2:=znA hl htl g4 (by rw[zce hl htl ha,g1,hc];rfl)
      rw[ha]at hc2
      refine⟨?_,hc2⟩
      rw[hc]at g1 g3
      match tr,g1 with
      | [c],_=>exact g3 0 c v rfl rfl
   refine⟨mkT (aggB P t) tr::ys,⟨⟨by rw[hrel.2],fuel,by rw[hrel.2];exact g4⟩,k1⟩,by simp[k2],fun i y x hy hx=>?_⟩
   cases i with
   | zero=>simp at hy hx;subst hy;subst hx;exact hrel.1
   | succ i=>exact k3 i y x (by simpa using hy) (by simpa using hx)
theorem zjm{f:FuncId}{w:World}{ys:List T}{args:Array Value}(hS:Sound P f (ys.map .t) [] fun r H'=>r= .ret (.b true)/\H'=[])(hl:ys.length=args.size)(hr:∀(i:Nat) y x,ys[i]?=some y->args[i]?=some x->TRel (fun b _=>b<w.heap.size) w y x)
  (hg:Glob (fun b _=>b<w.heap.size) w):
  Calls P f args w fun e w'=>e= .returned (.bool true)/\RowKit.Below w.heap.size w w':=by
 have hm:HRel ⟨fun b _=>b<w.heap.size,[],[],w⟩:=⟨rfl,by simp,by simp,fun b o _ ⟨i,p,k,h,_⟩=>by simp at h,fun b o h=>h,by simp,hg⟩
 refine Calls.mono (hS.2 ⟨fun b _=>b<w.heap.size,[],[],w⟩ args rfl hm ⟨by simp[hl],fun i s x hs hx=>?_⟩) ?_
 ·rw[qar]at hs
  cases hy:ys[i]? with
  | none=>rw[hy]at hs;cases hs
  | some y=>rw[hy]at hs;cases hs;exact .t _ _ (hr i y x hy hx)
 ·rintro e w' ⟨m',r,rfl,s,hm',hrr,rfl,hH⟩
  cases e with
  | returned x=>
    refine⟨by rw[SRel.v_eq hrr],s.os,s.tape,s.output,s.size,fun b hb=>s.block b hb fun o ⟨i,p,k,h,_⟩=>by simp at h⟩
  | _=>simp[zbZ]at hrr
section law
open RowKit WideShapes ChangeShapes
theorem zlR{f:Func}{s:ChangeSpec}{apart fresh handsOn again:Bool}{W W':World}{args:Array Value}{v:Value}{ds gs:List (DataW Hh)}{before pa pv:List MemPlace}
  (hW:DataW.Whole enc P f.params.toList s.vars apart W args.toList ds gs before)
  (hres:∀(b:Nat) (sp:Nat->Bool) (hd:Bool),DataW.TrodAll enc P W' b sp hd f.resultTypes.toList (v.resultList f.resultTypes.size) (s.fn Hh (ds++gs)).results [])
  (hargs:∀sp:Nat->Bool,(∀p∈before,sp p.block=true)->DataW.TrodAll enc P W' 0 sp true f.params.toList args.toList (s.fn Hh (ds++gs)).args pa)
  (hvars:∀sp:Nat->Bool,(∀p∈before,sp p.block=true)->DataW.TrodVars enc P W' sp s.vars (s.fn Hh (ds++gs)).vars pv)
  (hps:before=pa++pv)(hb:Below W.heap.size W W')
  (hok:∀(j:Nat) (t:TypeId) (r:Value),f.resultTypes[j]?=some t->(v.resultList f.resultTypes.size)[j]?=some r->Value.okWide P W' .any 0 t r):
  s.post enc P f apart fresh handsOn again W args v W':=by
 have hlt:∀p∈before,p.block<W.heap.size:=fun p hp=>hW.lt p hp
 have hold:∀p∈before,(fun b=>decide (b<W.heap.size)) p.block=true:=fun p hp=>by simpa using hlt p hp
 refine⟨ds,gs,before,[],pa,pv,hW,hres _ _ _,hargs _ hold,hvars _ hold,World.keptBut_mono (fun p hp=>⟨hp,?_⟩) (hb.frame (·∈before)),fun _=>?_⟩
 ·rw[hps,qbi]at hp
  exact Or.inr hp
 ·obtain⟨_,_,_,_,_,hz,hn⟩:=hW
  refine⟨hok,_,_,([]++pa)++pv,⟨[]++pa,pv,trodAll_append (hargs _ (fun _ _=>rfl)) (hres _ _ _),hvars _ (fun _ _=>rfl),rfl,?_,?_⟩,?_⟩
  ·intro b off hp
   have hin:MemPlace.cell b off∈before:=by rw[hps];simpa using hp
   rw[hb.frozen (hlt _ hin)]
   exact hz b off hin
  ·intro ha
   have:=hn ha
   rw[hps]at this
   simpa using this
  ·intro p hp _
   rw[hps]
   simpa using hp
theorem zha{l:List TypeId}(hl:zcs P l=true)(hlaid:laidOutB P=true)(hmaps:mapsRowed P=true)(hrows:∀t∈l,t<P.types.size):Kids P (·∈l):=by
 have K:=kids_rows hlaid hmaps
 have hp:∀t∈l,_:=qaw.1 hl
 refine⟨fun{t e} ht hu=>?_,fun{t e} ht hu=>?_,fun{t e n} ht hu=>?_,fun{t fs} ht hu=>?_,fun{t k e} ht hu=>?_⟩
 ·have:=hp t ht;simp[hu]at this
 ·have:=hp t ht
  simp only[hu,qat,qbO]at this
  exact this.1.2
 ·have:=hp t ht;simp[hu]at this
 ·obtain⟨_,k2,k3⟩:=K.struct (hrows t ht) hu
  refine⟨fun f hf=>?_,k2,k3⟩
  have:=hp t ht
  simp only[hu,qaw]at this
  simpa using this f hf
 ·have:=hp t ht;simp[hu]at this
theorem zgC{l:List TypeId}(hl:zcs P l=true)(hlaid:laidOutB P=true)(hmaps:mapsRowed P=true)(hrows:∀t∈l,t<P.types.size){W W':World}(hb:Below W.heap.size W W'){sp:Nat->Bool}:
  ∀(ts:List TypeId) (vs:List Value) (ds:List (DataW Hh)) (ps:List MemPlace),(∀t∈ts,t∈l)->(∀p∈ps,p.block<W.heap.size)->(∀p∈ps,sp p.block=true)->DataW.TrodAll enc P W 0 (fun _=>true) true ts vs ds ps->DataW.TrodAll enc P W' 0 sp true ts vs ds ps
 | [],vs,ds,ps,_,_,_,h=>by
   cases vs <;> cases ds <;> simp[DataW.TrodAll]at h⊢
   exact h
 | t::ts,vs,ds,ps,ht,hlt,hsp,h=>by
   obtain⟨v,vs',d,ds',p,q,rfl,rfl,rfl,⟨fuel,h1⟩,h2⟩:=trodAll_cons h
   refine trodAll_cons_mk ⟨fuel,?_⟩ (zgC hl hlaid hmaps hrows hb ts vs' ds' q (fun t h=>ht t (qaA _ h)) (fun p hp=>hlt p (qbR _ hp)) (fun p hp=>hsp p (qbR _ hp)) h2)
   refine DataW.trod_stays (T:=(·∈l)) (zha hl hlaid hmaps hrows) (fun{t e} ht hu=>?_) (fun h=>by cases h) (ht t qaC) h1 (fun x hx=>hb.same (hlt x (qbV _ hx))) (fun x hx=>hsp x (qbV _ hx))
   have:=qaw.1 hl t ht
   simp only[hu,qat]at this
   simpa [qa3]using this.2
theorem ziB{f:FuncId}{fn:Func}{s:ChangeSpec}{bt:TypeId}{l:List TypeId}{k:List (DataW Hh)->Prop}(hvars:s.vars=[])(hres:fn.resultTypes= #[bt])(hbt:P.underlying bt=some .bool)
  (hl:zcs P l=true)(hlaid:laidOutB P=true)(hmaps:mapsRowed P=true)(hrows:l.all (fun t=>Nat.blt t P.types.size)=true)(hin:fn.params.toList.all (fun t=>l.contains t)=true)
  (hspec:∀ds:List (DataW Hh),ds.length=fn.params.size->(s.fn Hh ds).results=[.lit (.bool true)]/\(s.fn Hh ds).args=ds/\(s.fn Hh ds).vars=[])
  (hS:∀(ds:List (DataW Hh)) ys,Fits P fn.params.toList ds ys->k ds->Sound P f (ys.map .t) [] fun r H'=>r= .ret (.b true)/\H'=[])
  (W:World)(base:Nat)(args:Array Value)(ds gs:List (DataW Hh))(before:List MemPlace)(hval:∀(j:Nat) t v,fn.params[j]?=some t->args[j]?=some v->Value.okWide P W .any base t v)
  (hW:DataW.Whole enc P fn.params.toList s.vars false W args.toList ds gs before)(hk:k (ds++gs))(hG:Glob (fun b _=>b<W.heap.size) W:=by intro b cs h;exact absurd h (zmK b cs)):
  Calls P f args W fun e W'=>∃v,e= .returned v/\s.post enc P fn false true false false W args v W':=by
 have hW':=hW
 obtain⟨p,q,hA,hV,rfl,hfz,hnd⟩:=hW
 rw[hvars]at hV
 obtain⟨rfl,rfl⟩:=trodVars_none hV
 simp only[qaU]at hk hW'
 have hrows':∀t∈l,t<P.types.size:=fun t ht=>by have:=qaw.1 hrows t ht;simpa [qa3]using this
 have hin':∀t∈fn.params.toList,t∈l:=fun t ht=>by have:=qaw.1 hin t ht;simpa using this
 have K:=zha hl hlaid hmaps hrows'
 obtain⟨ys,y1,y2,y3⟩:=zib (enc:=enc) hl (fun t ht fs hu=>(K.struct ht hu).2) fn.params.toList args.toList ds p hin' hA (fun j t v a b=>hval j t v (by simpa using a) (by simpa using b))
 have hlen:ds.length=fn.params.size:=by
  have:∀(ts:List TypeId) (ds:List (DataW Hh)) (ys:List T),Fits P ts ds ys->ds.length=ts.length:=by
   intro ts
   induction ts with
   | nil=>intro ds ys h;cases ds <;> cases ys <;> simp_all [Fits]
   | cons t ts ih=>intro ds ys h;cases ds <;> cases ys <;> simp[Fits]at h⊢;exact ih _ _ h.2
  simpa using this _ _ _ y1
 obtain⟨s1,s2,s3⟩:=hspec ds hlen
 refine Calls.mono (zjm (hS ds ys y1 hk) (by simpa using y2) (fun i y x hy hx=>y3 i y x hy (by simpa using hx)) hG) ?_
 rintro e W' ⟨rfl,hb⟩
 refine⟨_,rfl,zlR (pa:=p) (pv:=[]) hW' (fun b sp hd=>?_) (fun sp hsp=>?_) (fun sp hsp=>?_) (by simp) hb (ok_one hres rfl (okWide_bool_mk hbt _))⟩
 ·rw[qaU,s1,hres]
  exact trodAll_cons_mk (shut_bool hbt _) trodAll_mk0
 ·rw[qaU,s2]
  exact zgC hl hlaid hmaps hrows' hb _ _ _ _ hin' (fun x hx=>hW'.lt x (by simpa using hx)) (fun x hx=>hsp x (by simpa using hx)) hA
 ·rw[qaU,s3,hvars]
  rfl
end law
end Go.TL
namespace Go.Proofs.YtpfnfpaahefdaaaGreat
open Go Go.TL
attribute [local irreducible] TR TO Then zab RetK Sound zac Kf GG za2
section
variable {H:Type}
set_option maxRecDepth 20000 in
theorem zn2 {ds:List (DataW H)} {ys:List T} {ts:List TypeId} (h:Fits Tryz.prog (9::ts) ds ys):∃(l:Str) (ds':List (DataW H)) (ys':List T),l.length≤maxLen/\ds= .lit (.string l)::ds'/\ys= .v (str l)::ys'/\Fits Tryz.prog ts ds' ys':=by
 cases ds with
 | nil=>cases ys <;> exact h.elim
 | cons d ds=>
   cases ys with
   | nil=>exact h.elim
   | cons y ys=>
     obtain⟨⟨h1,n,h2⟩,h3⟩:=h
     cases n with
     | zero=>exact h2.elim
     | succ n=>
       simp only[TyD,Tryz.underlying9]at h2
       obtain⟨l,rfl,hy,hl⟩:=h2
       refine⟨l,ds,ys,hl,rfl,?_,h3⟩
       rw[h1,hy]
       rfl
theorem zn1{ds:List (DataW H)}{ys:List T}(h:Fits Tryz.prog [] ds ys):ds=[]/\ys=[]:=by
 cases ds <;> cases ys <;> first|exact⟨rfl,rfl⟩|exact h.elim
end
end Go.Proofs.YtpfnfpaahefdaaaGreat
namespace Go.Proofs.YtpfnfpaahefdaaaGreat
open Go Go.TL
theorem zdD{p:Int->Bool}:∀ {w R:Str},(∀c∈w,p c.toNat=true)->(∀c r,R=c::r->p c.toNat=false)->zat p (w++R)=w
 | [],R,_,hR=>by
   cases R with
   | nil=>rfl
   | cons c r=>simp[zat,hR c r rfl]
 | c::w,R,hw,hR=>by
   rw[qbc,zat,if_pos (hw c qaC),zdD (fun x hx=>hw x (qaA _ hx)) hR]
def zk7(k:Int)(x:Str):Prop:=
 (∃c w,x=c::w/\letter c.toNat=true/\(∀d∈x,inner d.toNat=true)/\zda x=(k,x,0))\/
 (∃c w,x=c::w/\(∀d∈x,digit d.toNat=true)/\zc3 x=(k,x,0))\/
 (k=5/\∀d∈x,zaA d.toNat=true)\/(k=4/\x∈zdd)
theorem zkh(l:Str):∀(all:List Str) (b:Str),all.foldl (zex l) b=b\/(all.foldl (zex l) b∈all/\zbp l (all.foldl (zex l) b)=true)
 | [],b=>.inl rfl
 | x::all,b=>by
   rw[qbJ]
   rcases zkh l all (zex l b x)with h|h
   ·rw[h]
    unfold zex
    split
    ·rename_i hx
     simp only[qat]at hx
     exact .inr ⟨qaC,hx.2⟩
    ·exact .inl rfl
   ·exact .inr ⟨qaA _ h.1,h.2⟩
theorem zjA{l x:Str}(h:zbp l x=true):l.take x.length=x:=by
 simp only[zbp,qat,beq_iff_eq]at h
 exact h.2
theorem zo2{w:Str}{k:Int}{x:Str}(h:zc3 w=(k,x,0)):k=2/\x=w:=by
 have key:∀(a b:Bool),(if a=true then((0:Int),([]:Str),(5:Int)) else if b=true then(0,[],14) else(2,w,0))=(k,x,0)->k=2/\x=w:=by
  intro a b h
  cases a <;> cases b <;> simp at h
  exact⟨h.1.symm,h.2.symm⟩
 exact key _ _ h
theorem zjI{w:Str}{k:Int}{x:Str}(h:zda w=(k,x,0)):(k=3\/k=1)/\x=w:=by
 unfold zda at h
 split at h
 ·simp at h
 ·split at h <;> simp at h
  ·exact⟨.inl h.1.symm,h.2.symm⟩
  ·exact⟨.inr h.1.symm,h.2.symm⟩
theorem zoE{r:Str}{k:Int}{x:Str}{n:Nat}(hr:r≠ [])(h:zai r=((k,x,0),n))(p:Int):zk7 k x/\r.take n=zaJ (k,x,p)/\n=(zaJ (k,x,p)).length:=by
 match r,hr with
 | c::r,_=>
   unfold zai at h
   simp only at h
   split at h
   ·rename_i hc
    simp only[qbs]at h
    obtain⟨h1,h2⟩:=h
    obtain⟨hk,hx⟩:=zjI h1
    have ht:=zdC inner (c::r)
    have ha:=zfL inner (c::r)
    have hs:zat inner (c::r)=c::zat inner r:=by rw[zat,if_pos (zfm hc).2.2]
    have htx:zaJ (k,x,p)=x:=by
     unfold zaJ
     rw[if_neg]
     rcases hk with rfl|rfl <;> simp
    rw[htx,hx,<-h2]
    rw[hx]at h1
    exact⟨.inl ⟨c,zat inner r,hs,hc,ha,h1⟩,ht.symm,rfl⟩
   ·split at h
    ·rename_i hd
     simp only[qbs]at h
     obtain⟨h1,h2⟩:=h
     obtain⟨rfl,hx⟩:=zo2 h1
     have ht:=zdC digit (c::r)
     have ha:=zfL digit (c::r)
     have hs:zat digit (c::r)=c::zat digit r:=by rw[zat,if_pos hd]
     have htx:zaJ (2,x,p)=x:=by simp[zaJ]
     rw[htx,hx,<-h2]
     rw[hx]at h1
     exact⟨.inr (.inl ⟨c,zat digit r,hs,ha,h1⟩),ht.symm,rfl⟩
    ·split at h
     ·rename_i hq
      simp only[qbs]at h
      obtain⟨h1,h2⟩:=h
      unfold zcT at h1
      split at h1
      ·rename_i hh
       simp only[qbs]at h1
       obtain⟨rfl,hx,_⟩:=h1
       have hc:c=39:=by
        have:(c.toNat:Int)=39:=by simpa using hq
        apply UInt8.toNat_inj.1
        show c.toNat=39
        omega
       unfold zcS at h2
       rw[if_pos hh]at h2
       have htx:zaJ (5,x,p)=39::x++[39]:=by simp[zaJ]
       rw[htx,<-hx,<-h2]
       refine⟨.inr (.inr (.inl ⟨rfl,zfL zaA r⟩)),?_,by simp⟩
       have ht:=zdC zaA r
       have hb:behind zaA r=39::(behind zaA r).drop 1:=by
        cases hbb:behind zaA r with
        | nil=>rw[hbb]at hh;cases hh
        | cons b q=>
          rw[hbb]at hh
          have:(b.toNat:Int)=39:=by simpa [zec]using hh
          have:b=39:=by
           apply UInt8.toNat_inj.1
           show b.toNat=39
           omega
          rw[this];rfl
       have hrr:r=zat zaA r++behind zaA r:=by
        conv=>lhs;rw[<-qbf (zat zaA r).length r]
        rw[<-ht];rfl
       rw[hc]
       generalize zat zaA r=a at*
       rw[hrr,hb]
       simp[List.take_append]
       exact qaH (by omega)
      ·simp at h1
     ·simp only[qbs]at h
      obtain⟨h1,h2⟩:=h
      unfold zfp at h1
      split at h1
      ·simp at h1
      ·rename_i hb
       simp only[qbs]at h1
       obtain⟨rfl,hx,_⟩:=h1
       have htx:zaJ (4,x,p)=x:=by simp[zaJ]
       rw[htx]
       subst hx
       rcases zkh (c::r) zdd []with hbm|hbm
       ·exfalso
        have:best (c::r) zdd=[]:=hbm
        rw[this]at hb
        exact hb rfl
       ·have hpre:zbp (c::r) (best (c::r) zdd)=true:=hbm.2
        have hmem:best (c::r) zdd∈zdd:=hbm.1
        refine⟨.inr (.inr (.inr ⟨rfl,hmem⟩)),?_,h2.symm⟩
        rw[<-h2]
        exact zjA hpre
def Sep(R:Str):Prop:=R=[]\/∃R',R=32::R'
theorem Sep.no{R:Str}(h:Sep R){p:Int->Bool}(hp:p 32=false):∀c r,R=c::r->p c.toNat=false:=by
 intro c r e
 rcases h with h|⟨R',h⟩
 ·rw[h]at e;cases e
 ·rw[h]at e;cases e;exact hp
set_option maxRecDepth 100000 in
theorem znq {x R:Str} (hx:x∈zdd) (hR:Sep R):∃c r,x++R=c::r/\letter c.toNat=false/\digit c.toNat=false/\((c.toNat:Int) == 39)=false/\blank c.toNat=false/\zbp (x++R) [45,45]=false/\best (x++R) zdd=x/\x≠ []:=by
 rcases hR with rfl|⟨R',rfl⟩ <;> simp only[zdd,qa8,List.not_mem_nil,or_false]at hx <;>
  rcases hx with rfl|rfl|rfl|rfl|rfl|rfl|rfl|rfl|rfl|rfl|rfl|rfl|rfl|rfl|rfl|rfl|rfl <;>
  refine⟨_,_,rfl,by decide,by decide,by decide,by decide,?_,?_,by decide⟩ <;>
  first
   | decide
   | (simp[zbp];done)
   | (simp only[best,zdd,List.foldl,zex,qbc,qbk,zpx,zmM,qaf,qac];simp)
theorem zjr{c:UInt8}(h:digit c.toNat=true):letter c.toNat=false/\blank c.toNat=false/\c≠45/\c≠39:=by
 refine⟨?_,?_,?_,?_⟩
 ·cases hb:letter c.toNat with
  | false=>rfl
  | true=>exfalso;simp[letter,digit]at h hb;omega
 ·cases hb:blank c.toNat with
  | false=>rfl
  | true=>exfalso;simp[blank,digit]at h hb;omega
 ·rintro rfl;revert h;decide
 ·rintro rfl;revert h;decide
theorem zhQ{c:UInt8}{r:Str}(h:blank c.toNat=false)(h2:c≠45):skipped (c::r)=c::r:=by
 refine zeR h ?_
 cases r with
 | nil=>exact zn6 _ _ _
 | cons d r=>rw[zmM];simp[h2]
theorem zgI{k:Int}{x:Str}(h:zk7 k x){R:Str}(hR:Sep R)(p:Int):zai (zaJ (k,x,p)++R)=((k,x,0),(zaJ (k,x,p)).length)/\skipped (zaJ (k,x,p)++R)=zaJ (k,x,p)++R/\zaJ (k,x,p)≠ []:=by
 rcases h with ⟨c,w,hx,hc,ha,hn⟩|⟨c,w,hx,ha,hn⟩|⟨rfl,ha⟩|⟨rfl,hm⟩
 ·obtain⟨hk,_⟩:=zjI hn
  have htx:zaJ (k,x,p)=x:=by
   unfold zaJ
   rw[if_neg]
   rcases hk with rfl|rfl <;> simp
  rw[htx]
  have hs:zat inner (x++R)=x:=zdD ha (hR.no (by decide))
  refine⟨?_,?_,by rw[hx];simp⟩
  ·have:x++R=c::(w++R):=by rw[hx];rfl
   rw[this]at hs⊢
   unfold zai
   simp only
   rw[if_pos hc,hs,hn]
  ·rw[hx]
   obtain⟨g1,g2,_⟩:=zfm hc
   exact zhQ g1 g2
 ·obtain⟨rfl,_⟩:=zo2 hn
  have htx:zaJ (2,x,p)=x:=by simp[zaJ]
  rw[htx]
  have hs:zat digit (x++R)=x:=zdD ha (hR.no (by decide))
  have hd:digit c.toNat=true:=ha c (by rw[hx];exact qaC)
  obtain⟨g1,g2,g3,g4⟩:=zjr hd
  refine⟨?_,?_,by rw[hx];simp⟩
  ·have:x++R=c::(w++R):=by rw[hx];rfl
   rw[this]at hs⊢
   unfold zai
   simp only
   rw[if_neg (by rw[g1];simp),if_pos hd,hs,hn]
  ·rw[hx]
   exact zhQ g2 g3
 ·have htx:zaJ (5,x,p)=39::x++[39]:=by simp[zaJ]
  rw[htx]
  have hs:zat zaA (x++39::R)=x:=zdD ha (fun c r e=>by cases e;decide)
  have hb:behind zaA (x++39::R)=39::R:=by rw[behind,hs,qbN]
  refine⟨?_,?_,by simp⟩
  ·have:(39::x++[39]++R:Str)=39::(x++39::R):=by simp
   rw[this]
   unfold zai
   simp only
   rw[if_neg (by decide),if_neg (by decide),if_pos (by decide),hs,hb]
   simp[zcT,zcS,zec]
  ·exact zhQ (c:=39) (r:=x++[39]++R) (by decide) (by decide)
 ·have htx:zaJ (4,x,p)=x:=by simp[zaJ]
  rw[htx]
  obtain⟨c,r,he,g1,g2,g3,g4,g5,g6,g7⟩:=znq hm hR
  refine⟨?_,?_,g7⟩
  ·rw[he]at g6⊢
   unfold zai
   simp only
   rw[if_neg (by rw[g1];simp),if_neg (by rw[g2];simp),if_neg (by rw[g3];simp),g6]
   unfold zfp
   rw[if_neg]
   intro h0
   exact g7 (by simpa using h0)
  ·rw[he]at g5⊢
   exact zeR g4 g5
end Go.Proofs.YtpfnfpaahefdaaaGreat
