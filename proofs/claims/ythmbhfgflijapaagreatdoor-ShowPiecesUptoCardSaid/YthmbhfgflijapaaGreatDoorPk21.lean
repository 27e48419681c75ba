import Derived.ProofKit
import Derived.OpenShut
import Derived.Test.YthmbhfgflijapaaGreatDoorPk20
set_option linter.all false
namespace Go.Proofs.YthmbhfgflijapaaGreatDoor
open Go Go.TL
theorem zl6(c x:UInt8)(r:Str):zbb (c::r) [x]=(c == x):=by simp[zbb]
theorem zjp(c d x y:UInt8)(r:Str):zbb (c::d::r) [x,y]=(c == x && d == y):=by simp[zbb]
theorem zrP(c x y:UInt8):zbb [c] [x,y]=false:=by simp[zbb]
theorem znV{p:Int->Bool}{c:UInt8}{r:Str}(h:p c.toNat=true):behind p (c::r)=behind p r:=by simp[behind,zao,h]
theorem zo7{p:Int->Bool}{c:UInt8}{r:Str}(h:p c.toNat=false):behind p (c::r)=c::r:=by simp[behind,zao,h]
theorem zjK{c:UInt8}{r:Str}(h:blank c.toNat=true):skipped (c::r)=skipped r:=by
 rw[zcw (c::r),zcw r,znV h]
theorem zfG{c:UInt8}{r:Str}(h:blank c.toNat=false)(h2:zbb (c::r) [45,45]=false):skipped (c::r)=c::r:=by
 rw[zcw (c::r),zo7 h,if_neg (by simp[h2])]
end Go.Proofs.YthmbhfgflijapaaGreatDoor
namespace Go.Proofs.YthmbhfgflijapaaGreatDoor
open Go Go.TL
attribute [local irreducible] TR TO Then zag RetK Sound zab Kf GG zaK
def zax(t:Tok):Str:=if(t.1 == 5)=true then[39]++t.2.1++[39] else t.2.1
end Go.Proofs.YthmbhfgflijapaaGreatDoor
namespace Go.Proofs.YthmbhfgflijapaaGreatDoor
open Go Go.TL
def zaq(s:Str)(i:Nat):Nat:=s.length-(skipped (s.drop i)).length
theorem zkR{s:Str}{i:Nat}(hi:i≤s.length):i≤zaq s i/\zaq s i≤s.length:=by
 have h:=zhX (s.drop i)
 rw[qaZ]at h
 unfold zaq;omega
theorem zbq(n:Nat)(s:Str)(i:Nat)(out:List Tok):zda (n+1) s i out=
  (if zaq s i=s.length then(out,0,0)
   else if((zad (s.drop (zaq s i))).1.2.2 != 0)=true then([],(zaq s i:Int),(zad (s.drop (zaq s i))).1.2.2)
   else zda n s (zaq s i+(zad (s.drop (zaq s i))).2) (out++[((zad (s.drop (zaq s i))).1.1,(zad (s.drop (zaq s i))).1.2.1,(zaq s i:Int))])):=rfl
theorem zet{s:Str}{i:Nat}(hi:i≤s.length)(h1:zaq s i≠s.length)(h2:((zad (s.drop (zaq s i))).1.2.2 != 0)=false):
  i<zaq s i+(zad (s.drop (zaq s i))).2/\zaq s i+(zad (s.drop (zaq s i))).2≤s.length:=by
 obtain⟨g1,g2⟩:=zkR hi
 have hl:=zh6 (l:=s.drop (zaq s i)) (by simp;omega) h2
 rw[qaZ]at hl
 omega
theorem zqy(s:Str):∀(n i:Nat) (out:List Tok),s.length-i<n->i≤s.length->
  zda n s i out=(if(zda n s i []).2.2=0 then(out++(zda n s i []).1,(zda n s i []).2.1,0) else zda n s i []):=by
 intro n
 induction n with
 | zero=>intro i out h;omega
 | succ n ih=>
   intro i out hn hi
   by_cases h1:zaq s i=s.length
   ·rw[zbq,zbq,if_pos h1,if_pos h1];simp
   ·cases h2:((zad (s.drop (zaq s i))).1.2.2 != 0) with
    | true=>
      have h3:¬(zad (s.drop (zaq s i))).1.2.2=0:=by simpa using h2
      rw[zbq,zbq,if_neg h1,if_neg h1,if_pos h2,if_pos h2,if_neg h3]
    | false=>
      obtain⟨g1,g2⟩:=zet hi h1 h2
      have e:∀out,zda (n+1) s i out=zda n s (zaq s i+(zad (s.drop (zaq s i))).2) (out++[((zad (s.drop (zaq s i))).1.1,(zad (s.drop (zaq s i))).1.2.1,(zaq s i:Int))]):=fun out=>by
       rw[zbq,if_neg h1,if_neg (by rw[h2];simp)]
      rw[e,e,ih _ (out++_) (by omega) g2,ih _ ([]++_) (by omega) g2]
      by_cases h3:(zda n s (zaq s i+(zad (s.drop (zaq s i))).2) []).2.2=0
      ·simp[h3]
      ·simp[h3]
def toks(s:Str)(i:Nat):List Tok×Int×Int:=zda (s.length-i+1) s i []
theorem zoE(s:Str):∀(n m i:Nat) (out:List Tok),s.length-i<n->s.length-i<m->i≤s.length->zda n s i out=zda m s i out:=by
 intro n
 induction n with
 | zero=>intro m i out h;omega
 | succ n ih=>
   intro m i out hn hm hi
   obtain⟨m,rfl⟩:∃k,m=k+1:=⟨m-1,by omega⟩
   rw[zbq,zbq]
   by_cases h1:zaq s i=s.length
   ·rw[if_pos h1,if_pos h1]
   ·rw[if_neg h1,if_neg h1]
    cases h2:((zad (s.drop (zaq s i))).1.2.2 != 0) with
    | true=>rfl
    | false=>
      obtain⟨g1,g2⟩:=zet hi h1 h2
      exact ih m _ _ (by omega) (by omega) g2
theorem zqA{s:Str}(h:s.length≤65536):scan s=toks s 0:=if_neg (by omega)
theorem zsw{s:Str}{i:Nat}(h:zaq s i=s.length):toks s i=([],0,0):=by
 rw[toks,zbq,if_pos h]
theorem zsx{s:Str}{i:Nat}(h:zaq s i≠s.length)(h2:((zad (s.drop (zaq s i))).1.2.2 != 0)=true):toks s i=([],(zaq s i:Int),(zad (s.drop (zaq s i))).1.2.2):=by
 rw[toks,zbq,if_neg h,if_pos h2]
theorem zqV{s:Str}{i:Nat}(hi:i≤s.length)(h:zaq s i≠s.length)(h2:((zad (s.drop (zaq s i))).1.2.2 != 0)=false):
  toks s i=(if(toks s (zaq s i+(zad (s.drop (zaq s i))).2)).2.2=0 then
   (((zad (s.drop (zaq s i))).1.1,(zad (s.drop (zaq s i))).1.2.1,(zaq s i:Int))::(toks s (zaq s i+(zad (s.drop (zaq s i))).2)).1,(toks s (zaq s i+(zad (s.drop (zaq s i))).2)).2.1,0)
   else toks s (zaq s i+(zad (s.drop (zaq s i))).2)):=by
 obtain⟨g1,g2⟩:=zet hi h h2
 have e:toks s i=zda (s.length-i) s (zaq s i+(zad (s.drop (zaq s i))).2) ([]++[((zad (s.drop (zaq s i))).1.1,(zad (s.drop (zaq s i))).1.2.1,(zaq s i:Int))]):=by
  rw[toks,zbq,if_neg h,if_neg (by rw[h2];simp)]
 have f:zda (s.length-i) s (zaq s i+(zad (s.drop (zaq s i))).2) []=toks s (zaq s i+(zad (s.drop (zaq s i))).2):=zoE s _ _ _ _ (by omega) (by omega) g2
 rw[e,zqy s _ _ _ (by omega) g2,f]
 rfl
theorem zgs{c:UInt8}(h:letter c.toNat=true):blank c.toNat=false/\c≠45/\inner c.toNat=true:=by
 refine⟨?_,?_,?_⟩
 ·cases hb:blank c.toNat with
  | false=>rfl
  | true=>
    exfalso
    simp[letter,blank]at h hb
    omega
 ·rintro rfl
  revert h;decide
 ·simp[inner,h]
end Go.Proofs.YthmbhfgflijapaaGreatDoor
namespace Go.Proofs.YthmbhfgflijapaaGreatDoor
open Go Go.TL
attribute [local irreducible] TR TO Then zag RetK Sound zab Kf GG zaK
theorem zmr(s:Str):∀(n i:Nat) (out:List Tok),i≤s.length->out.length≤i->(zda n s i out).1.length≤s.length:=by
 intro n
 induction n with
 | zero=>intro i out _ _;simp[zda]
 | succ n ih=>
   intro i out hi ho
   rw[zbq]
   by_cases h1:zaq s i=s.length
   ·rw[if_pos h1];simp only;omega
   ·rw[if_neg h1]
    cases h2:((zad (s.drop (zaq s i))).1.2.2 != 0) with
    | true=>simp
    | false=>
      obtain⟨g1,g2⟩:=zet hi h1 h2
      exact ih _ _ g2 (by simp;omega)
theorem zoF(s:Str):(scan s).1.length≤65536:=by
 unfold scan
 split
 ·simp
 ·have:=zmr s (s.length+1) 0 [] (qaJ _) (qae _)
  omega
end Go.Proofs.YthmbhfgflijapaaGreatDoor
namespace Go.TL
open Go
variable {Hh:Type}{enc:TypeId×Value->Hh}{P:Program}
def aggB(P:Program)(t:TypeId):Bool:=
 match P.underlying t with
 | some (.struct _)=>true
 | _=>false
def zb0(P:Program)(l:List TypeId):Bool:=l.all fun t=>match P.underlying t with
 | some .bool|some (.int _)|some .string=>P.cellsOf t == 1
 | some (.slice e)=>P.cellsOf t == 1 && l.contains e && Nat.blt 0 (P.cellsOf e)
 | some (.struct fs)=>fs.toList.all fun f=>l.contains f.type
 | _=>false
def mkT(agg:Bool)(ts:List T):T:=bif agg then .ag ts else ts.headD (.v undef)
def TyD(P:Program):Nat->TypeId->DataW Hh->List T->Prop
 | 0,_,_,_=>False
 | n+1,t,d,ts=>match P.underlying t with
   | some .bool=>∃b,d= .lit (.bool b)/\ts=[.v (.bool b)]
   | some (.int k)=>∃i,d= .lit (.int k i)/\ts=[.v (.int k i)]/\(Lit.int k i).wf=true
   | some .string=>∃l:List UInt8,d= .lit (.string l)/\ts=[.v (str l)]/\l.length≤maxLen
   | some (.slice e)=>∃(els sp:List (DataW Hh)) (es:List T),((d= .nil/\els=[])\/d= .slice els sp)/\ts=[.sl (P.cellsOf e) es]/\es.length=els.length/\es.length≤maxLen/\
      ∀(i:Nat) x y,els[i]?=some x->es[i]?=some y->y=mkT (aggB P e) y.cells/\TyD P n e x y.cells
   | some (.struct fs)=>∃xs:List (DataW Hh),d= .agg xs/\ts.length=P.cellsOf t/\xs.length=fs.size/\∀(i:Nat) f x,fs[i]?=some f->xs[i]?=some x->TyD P n f.type x ((ts.drop f.offset).take (P.cellsOf f.type))
   | _=>False
theorem zcv{l:List TypeId}(hl:zb0 P l=true){t:TypeId}(ht:t∈l)(ha:aggB P t=false):P.cellsOf t=1:=by
 have:=qaw.1 hl t ht
 unfold aggB at ha
 split at this <;> simp_all
theorem ztJ{w:World}{b o:Nat}{y:Value}(h:w.cell? ⟨b,o,none⟩=some y):b<w.heap.size:=by
 unfold World.cell? at h
 cases hq:w.heap[b]? with
 | none=>rw[hq]at h;cases h
 | some ob=>exact(qaj.1 hq).1
theorem zhr{A:Foot}{w:World}{n:Nat}{cs:List Value}:∀(gs:List Field) (xs:List (DataW Hh)) (o:Nat),(∀(j:Nat) g,gs[j]?=some g->g.offset=o+((gs.take j).map fun f=>P.cellsOf f.type).sum)->o+(gs.map fun f=>P.cellsOf f.type).sum≤cs.length->
  xs.length=gs.length->(∀(j:Nat) g x,gs[j]?=some g->xs[j]?=some x->∃ts:List T,ts.length=((cs.drop g.offset).take (P.cellsOf g.type)).length/\(∀(i:Nat) c y,ts[i]?=some c->((cs.drop g.offset).take (P.cellsOf g.type))[i]?=some y->TRel A w c y)/\TyD P n g.type x ts)->
  ∃ts:List T,ts.length=(gs.map fun f=>P.cellsOf f.type).sum/\(∀(i:Nat) c y,ts[i]?=some c->cs[o+i]?=some y->TRel A w c y)/\(∀(j:Nat) g x,gs[j]?=some g->xs[j]?=some x->TyD P n g.type x ((ts.drop (g.offset-o)).take (P.cellsOf g.type)))
 | [],xs,o,_,_,hx,_=>⟨[],rfl,by simp,by simp⟩
 | g::gs,xs,o,ho,hl,hx,hf=>by
   cases xs with
   | nil=>simp at hx
   | cons x xs=>
     have h0:g.offset=o:=by simpa using ho 0 g rfl
     simp only[qah,qay]at hl
     obtain⟨t0,a1,a2,a3⟩:=hf 0 g x rfl rfl
     have a1':t0.length=P.cellsOf g.type:=by rw[a1,h0];simp;omega
     obtain⟨ts,b1,b2,b3⟩:=zhr gs xs (o+P.cellsOf g.type) (fun j f hj=>by
      have:=ho (j+1) f (by simpa using hj)
      simp only[qaL,qah,qay]at this
      omega) (by omega) (by simpa using hx) (fun j f y hj hy=>hf (j+1) f y (by simpa using hj) (by simpa using hy))
     refine⟨t0++ts,by simp[a1',b1],fun i c y hc hy=>?_,fun j f y hj hy=>?_⟩
     ·by_cases hi:i<t0.length
      ·rw[qat hi]at hc
       refine a2 i c y hc ?_
       rw[qaS,if_pos (by omega),qa6,h0];exact hy
      ·rw[qaA (by omega)]at hc
       refine b2 _ c y hc ?_
       rw[show o+P.cellsOf g.type+(i-t0.length)=o+i from by omega];exact hy
     ·cases j with
      | zero=>
        simp at hj hy
        subst hj;subst hy
        rw[h0,qcd,qbe,<-a1',qcL]
        exact a3
      | succ j=>
        have hj':gs[j]?=some f:=by simpa using hj
        have:=ho (j+1) f hj
        simp only[qaL,qah,qay]at this
        have hd:(t0++ts).drop (f.offset-o)=ts.drop (f.offset-(o+P.cellsOf g.type)):=by
         rw[show f.offset-o=t0.length+(f.offset-(o+P.cellsOf g.type)) from by omega,qcA,qbR (by omega),qa9,Nat.add_sub_cancel_left]
        rw[hd]
        exact b3 j f y hj' (by simpa using hy)
theorem zm5:∀(gs:List Field) (o i:Nat),(∀(j:Nat) g,gs[j]?=some g->g.offset=o+((gs.take j).map fun f=>P.cellsOf f.type).sum)->o≤i->i<o+(gs.map fun f=>P.cellsOf f.type).sum->∃(j:Nat) (g:Field),gs[j]?=some g/\g.offset≤i/\i<g.offset+P.cellsOf g.type
 | [],o,i,_,h1,h2=>by simp at h2;omega
 | g::gs,o,i,ho,h1,h2=>by
   have h0:g.offset=o:=by simpa using ho 0 g rfl
   simp only[qah,qay]at h2
   by_cases hi:i<o+P.cellsOf g.type
   ·exact⟨0,g,rfl,by omega,by omega⟩
   ·obtain⟨j,f,hj,h3⟩:=zm5 gs (o+P.cellsOf g.type) i (fun j f hj=>by
     have:=ho (j+1) f (by simpa using hj)
     simp only[qaL,qah,qay]at this
     omega) (by omega) (by omega)
    exact⟨j+1,f,by simpa using hj,h3⟩
theorem zou{w:World}{base:Nat}{held:Bool}{l:List TypeId}(hl:zb0 P l=true)(hK:∀t∈l,∀fs:Array Field,P.underlying t=some (.struct fs)->P.cellsOf t=(fs.toList.map fun f=>P.cellsOf f.type).sum/\∀(j:Nat) f,fs.toList[j]?=some f->f.offset=((fs.toList.take j).map fun f=>P.cellsOf f.type).sum):∀(n:Nat) (t:TypeId) (cs:List Value) (d:DataW Hh) (ps:List MemPlace),t∈l->DataW.trod enc P w base (fun _=>true) held n t cs=some (d,ps)->
  ∃ts:List T,ts.length=cs.length/\(∀(i:Nat) x,cs[i]?=some x->x.oneCell'=true)/\(∀(i:Nat) c x,ts[i]?=some c->cs[i]?=some x->TRel (fun b _=>b<w.heap.size) w c x)/\TyD P n t d ts:=by
 intro n
 induction n with
 | zero=>intro t cs d ps ht h;simp[DataW.trod]at h
 | succ n ih=>
   intro t cs d ps ht h
   have hp:=qaw.1 hl t ht
   have one:∀(x:Value) (c:T),x.oneCell'=true->TRel (fun b _=>b<w.heap.size) w c x->(∀(i:Nat) y,[x][i]?=some y->y.oneCell'=true)/\(∀(i:Nat) c' y,[c][i]?=some c'->[x][i]?=some y->TRel (fun b _=>b<w.heap.size) w c' y):=by
    intro x c hx hr
    refine⟨fun i y hy=>?_,fun i c' y hc hy=>?_⟩
    ·cases i with
     | zero=>simp at hy;subst hy;exact hx
     | succ i=>simp at hy
    ·cases i with
     | zero=>simp at hy hc;subst hy;subst hc;exact hr
     | succ i=>simp at hy
   cases hu:P.underlying t with
   | none=>rw[hu]at hp;cases hp
   | some td=>
     rw[hu]at hp
     cases td with
     | bool=>
       obtain⟨b,rfl,hx⟩:=DataW.trod_bool hu h
       cases hx
       obtain⟨o1,o2⟩:=one (.bool b) (.v (.bool b)) rfl (.v _)
       exact⟨[.v (.bool b)],rfl,o1,o2,by simp only[TyD,hu];exact⟨b,rfl,rfl⟩⟩
     | int k=>
       obtain⟨i,rfl,hx,hwf⟩:=DataW.trod_int hu h
       cases hx
       obtain⟨o1,o2⟩:=one (.int k i) (.v (.int k i)) rfl (.v _)
       exact⟨[.v (.int k i)],rfl,o1,o2,by simp only[TyD,hu];exact⟨i,rfl,rfl,hwf⟩⟩
     | string=>
       obtain⟨s,rfl,hx,hlen⟩:=DataW.trod_string hu h
       cases hx
       obtain⟨a⟩:=s
       obtain⟨o1,o2⟩:=one (.string ⟨a⟩) (.v (str a.toList)) rfl (.v _)
       exact⟨[.v (str a.toList)],rfl,o1,o2,by simp only[TyD,hu];exact⟨a.toList,rfl,rfl,hlen⟩⟩
     | slice e=>
       simp only[qau,qbT,beq_iff_eq]at hp
       obtain⟨⟨_,he⟩,hpos⟩:=hp
       have hpos':0<P.cellsOf e:=by simpa [qbq]using hpos
       rcases DataW.trod_slice hu h with ⟨rfl,hx⟩|⟨a,len,cap,elems,rest,n',hn,rfl,hx,hb,hlc,hcm,hel,hat,hsp,_⟩
       ·cases hx
        obtain⟨o1,o2⟩:=one (.slice none 0 0) (.sl (P.cellsOf e) []) rfl (.nil _)
        exact⟨[.sl (P.cellsOf e) []],rfl,o1,o2,by simp only[TyD,hu];exact⟨[],[],[],by simp,rfl,rfl,qaJ _,by simp⟩⟩
       ·cases hn
        cases hx
        have hev:∀i,i<len->∃(cs':List Value) (x:DataW Hh×List MemPlace) (ts:List T),w.cells? base (a.add (i*P.cellsOf e)) (P.cellsOf e)=some cs'/\elems[i]?=some x/\ts.length=cs'.length/\(∀(j:Nat) y,cs'[j]?=some y->y.oneCell'=true)/\
          (∀(j:Nat) c y,ts[j]?=some c->cs'[j]?=some y->TRel (fun b _=>b<w.heap.size) w c y)/\TyD P n e x.1 ts:=by
         intro i hi
         have hx:elems[i]?=some (elems[i]'(by omega)):=qac _
         have:=hat i hi
         rw[hx,qao]at this
         obtain⟨cs',h1,h2⟩:=this
         obtain⟨ts,g1,g2,g3,g4⟩:=ih e cs' _ _ he h2
         exact⟨cs',_,ts,h1,hx,g1,g2,g3,g4⟩
        have hspot:0<cap->a.spot=none:=by
         intro hc
         have key:∃i cs',i<cap/\i=0/\w.cells? base (a.add (i*P.cellsOf e)) (P.cellsOf e)=some cs':=by
          by_cases hl0:0<len
          ·obtain⟨cs',_,_,h1,_⟩:=hev 0 hl0
           exact⟨0,cs',hc,rfl,h1⟩
          ·have hlen:len=0:=by omega
           obtain⟨h1,h2⟩:=hsp rfl
           have hr:rest[0]?=some (rest[0]'(by omega)):=qac _
           have:=h2 0 (by omega)
           rw[hr,qao]at this
           obtain⟨cs',h3,_⟩:=this
           exact⟨0,cs',hc,rfl,by rw[hlen]at h3;simpa using h3⟩
         obtain⟨i,cs',_,rfl,h1⟩:=key
         obtain⟨_,_,h3⟩:=World.cells?_some h1
         obtain⟨_,h4,_⟩:=World.cells?_some h1
         have h5:=h3 0 hpos'
         have h6:cs'[0]?=some (cs'[0]'(by omega)):=qac _
         rw[h6]at h5
         simp only[qcp,Addr.add,if_true]at h5
         unfold World.cell? at h5
         split at h5
         ·split at h5
          ·cases h5
          ·rename_i hs;simpa using hs
         ·cases h5
        by_cases hcap0:cap=0
        ·subst hcap0
         have hl0:len=0:=by omega
         subst hl0
         have he0:elems=[]:=qaM hel
         subst he0
         obtain⟨o1,o2⟩:=one (.slice (some a) 0 0) (.sl (P.cellsOf e) []) rfl (.empty _ _)
         exact⟨[.sl (P.cellsOf e) []],rfl,o1,o2,by simp only[TyD,hu];exact⟨[],_,[],.inr rfl,rfl,rfl,qaJ _,by simp⟩⟩
        obtain⟨ab,ao,asp⟩:=a
        have has:=hspot (by omega)
        simp only at has
        subst has
        have hex:∀i,∃ts:List T,i<len->∃(cs':List Value) (x:DataW Hh×List MemPlace),w.cells? base ((⟨ab,ao,none⟩:Addr).add (i*P.cellsOf e)) (P.cellsOf e)=some cs'/\elems[i]?=some x/\ts.length=cs'.length/\(∀(j:Nat) y,cs'[j]?=some y->y.oneCell'=true)/\
          (∀(j:Nat) c y,ts[j]?=some c->cs'[j]?=some y->TRel (fun b _=>b<w.heap.size) w c y)/\TyD P n e x.1 ts:=by
         intro i
         by_cases hi:i<len
         ·obtain⟨cs',x,ts,h⟩:=hev i hi
          exact⟨ts,fun _=>⟨cs',x,h⟩⟩
         ·exact⟨[],fun h=>absurd h hi⟩
        obtain⟨f,hf⟩:=qbJ hex
        have hfl:∀i,i<len->(f i).length=P.cellsOf e:=by
         intro i hi
         obtain⟨cs',x,h1,h2,h3,_⟩:=hf i hi
         obtain⟨_,h4,_⟩:=World.cells?_some h1
         omega
        have hmk:∀i,i<len->(mkT (aggB P e) (f i)).cells=f i:=by
         intro i hi
         unfold mkT
         cases ha:aggB P e with
         | true=>rfl
         | false=>
           have h1:=hfl i hi
           rw[zcv hl he ha]at h1
           match hfi:f i,h1 with
           | [c],_=>
             obtain⟨cs',x,g1,g2,g3,g4,g5,g6⟩:=hf i hi
             rw[hfi]at g6
             have:∀l,c≠ .ag l:=by
              intro l hc
              subst hc
              cases n with
              | zero=>exact g6
              | succ n=>
                have hpe:=qaw.1 hl e he
                unfold aggB at ha
                simp only[TyD]at g6
                split at g6 <;> simp_all
             cases c with
             | ag l=>exact absurd rfl (this l)
             | _=>rfl
        have hcell:∀i j,i<len->j<P.cellsOf e->∃y,w.cell? ⟨ab,ao+(i*P.cellsOf e+j),none⟩=some y/\y.oneCell'=true/\∀c,(f i)[j]?=some c->TRel (fun b _=>b<w.heap.size) w c y:=by
         intro i j hi hj
         obtain⟨cs',x,g1,g2,g3,g4,g5,g6⟩:=hf i hi
         obtain⟨_,h4,h5⟩:=World.cells?_some g1
         have h6:=h5 j hj
         have h7:cs'[j]?=some (cs'[j]'(by omega)):=qac _
         rw[h7,zbv,zbv,qa4]at h6
         exact⟨_,h6,g4 j _ h7,fun c hc=>g5 j c _ hc h7⟩
        obtain⟨es,hes⟩:∃es:List T,es=(List.range len).map fun i=>mkT (aggB P e) (f i):=⟨_,rfl⟩
        have hesl:es.length=len:=by rw[hes];simp
        have heg:∀(i:Nat) y,es[i]?=some y->i<len/\y=mkT (aggB P e) (f i):=by
         intro i y hy
         have hi:=(qaa.1 hy).1
         rw[hesl]at hi
         refine⟨hi,?_⟩
         rw[hes]at hy
         simp[hi]at hy
         exact hy.symm
        have hrel:TRel (fun b _=>b<w.heap.size) w (.sl (P.cellsOf e) es) (.slice (some ⟨ab,ao,none⟩) es.length cap):=by
         have dm:∀i j,j<P.cellsOf e->(i*P.cellsOf e+j) / P.cellsOf e=i/\(i*P.cellsOf e+j) % P.cellsOf e=j:=fun i j hj=>by
          rw[qco]
          exact⟨by rw[Nat.mul_add_div hpos',Nat.div_eq_of_lt hj];rfl,by rw[Nat.mul_add_mod,Nat.mod_eq_of_lt hj]⟩
         refine .sl _ es ab ao cap (fun q=>(w.cell? ⟨ab,ao+q,none⟩).getD undef) (by omega) (fun i y hy=>?_) (fun i j hi hj=>?_) (fun i j hi hj=>?_) (fun i j hi hj=>?_) (fun i y j c hy hc=>?_)
         ·obtain⟨hi,rfl⟩:=heg i y hy
          rw[hmk i hi,hfl i hi]
         ·obtain⟨y,h1,_⟩:=hcell i j (by omega) hj
          exact ztJ h1
         ·obtain⟨y,h1,_⟩:=hcell i j (by omega) hj
          rw[h1];rfl
         ·obtain⟨y,h1,h2,_⟩:=hcell i j (by omega) hj
          simp only[h1];exact h2
         ·obtain⟨hi,rfl⟩:=heg i y hy
          rw[hmk i hi]at hc
          have hj:j<P.cellsOf e:=by rw[<-hfl i hi];exact(qaa.1 hc).1
          obtain⟨y,h1,h2,h3⟩:=hcell i j hi hj
          simp only[h1];exact h3 c hc
        rw[hesl]at hrel
        obtain⟨o1,o2⟩:=one (.slice (some ⟨ab,ao,none⟩) len cap) (.sl (P.cellsOf e) es) rfl hrel
        refine⟨[.sl (P.cellsOf e) es],rfl,o1,o2,?_⟩
        simp only[TyD,hu]
        refine⟨elems.map (·.1),rest.map (·.1),es,.inr rfl,rfl,by rw[hesl,qab,hel],by omega,fun i x y hx hy=>?_⟩
        obtain⟨hi,rfl⟩:=heg i y hy
        rw[hmk i hi]
        refine⟨rfl,?_⟩
        obtain⟨cs',x',g1,g2,g3,g4,g5,g6⟩:=hf i hi
        rw[qar,g2]at hx
        cases hx
        exact g6
     | struct fs=>
       obtain⟨xs,n',hn,hx,hlen,hxl,hat⟩:=DataW.trod_struct hu h
       cases hn
       cases hx
       have hpf:∀f∈fs.toList,f.type∈l:=by
        intro f hf
        simpa using qaw.1 hp f hf
       obtain⟨hk1,hk2⟩:=hK t ht fs hu
       have hfield:∀(j:Nat) g,fs.toList[j]?=some g->∃x,xs[j]?=some x/\DataW.trod enc P w base (fun _=>true) held n g.type ((cs.drop g.offset).take (P.cellsOf g.type))=some x:=by
        intro j g hg
        have hj:=(qaa.1 hg).1
        have hx:xs[j]?=some (xs[j]'(by simp at hj;omega)):=qac _
        exact⟨_,hx,by rw[hat j g (by simpa using hg),hx]⟩
       obtain⟨ts,g1,g2,g3⟩:=zhr (A:=fun b _=>b<w.heap.size) (w:=w) (n:=n) (cs:=cs) (P:=P) fs.toList (xs.map (·.1)) 0 (fun j g hg=>by rw[qaU];exact hk2 j g hg) (by omega) (by simpa using hxl) (fun j g x hg hx=>by
        obtain⟨x',h1,h2⟩:=hfield j g hg
        rw[qar,h1]at hx
        cases hx
        obtain⟨ts,e1,e2,e3,e4⟩:=ih g.type _ x'.1 x'.2 (hpf g (qas hg)) h2
        exact⟨ts,e1,e3,e4⟩)
       refine⟨ts,by omega,fun i x hi=>?_,fun i c x hc hx=>g2 i c x hc (by rw[qaU];exact hx),?_⟩
       ·obtain⟨j,g,hj,hoi,hoi2⟩:=zm5 (P:=P) fs.toList 0 i (fun j g hg=>by rw[qaU];exact hk2 j g hg) (qaJ _) (by have:=(qaa.1 hi).1;omega)
        obtain⟨x',h1,h2⟩:=hfield j g hj
        obtain⟨ts',e1,e2,e3,e4⟩:=ih g.type _ x'.1 x'.2 (hpf g (qas hj)) h2
        refine e2 (i-g.offset) x ?_
        rw[qaS,if_pos (by omega),qa6,show g.offset+(i-g.offset)=i from by omega];exact hi
       ·simp only[TyD,hu]
        refine⟨xs.map (·.1),rfl,by omega,by rw[qab];exact hxl,fun i f x hf hx=>?_⟩
        have:=g3 i f x (by simpa using hf) hx
        simpa using this
     | _=>cases hp
def Fits(P:Program):List TypeId->List (DataW Hh)->List T->Prop
 | [],[],[]=>True
 | t::ts,d::ds,y::ys=>(y=mkT (aggB P t) y.cells/\∃n,TyD P n t d y.cells)/\Fits P ts ds ys
 | _,_,_=>False
theorem zor{w:World}{r:Reach}{base:Nat}{t:TypeId}{v:Value}(h:Value.okWide P w r base t v){l:List TypeId}(hl:zb0 P l=true)(ht:t∈l)(ha:aggB P t=false):v.cells= #[v]:=by
 have:=qaw.1 hl t ht
 unfold aggB at ha
 unfold Value.okWide at h
 split at this <;> simp_all
 all_goals
  rename_i hu
  cases v <;> first|rfl|(simp[Cell.okWide,Cell.ok,hu]at h)
theorem zq0{l:List TypeId}(hl:zb0 P l=true){n:Nat}{t:TypeId}{d:DataW Hh}{ts:List T}(ht:t∈l)(h:TyD P n t d ts)(hlen:ts.length=P.cellsOf t):(mkT (aggB P t) ts).cells=ts:=by
 unfold mkT
 cases ha:aggB P t with
 | true=>rfl
 | false=>
   rw[zcv hl ht ha]at hlen
   match ts,hlen with
   | [c],_=>
     have:∀l,c≠ .ag l:=by
      intro l hc
      subst hc
      cases n with
      | zero=>exact h
      | succ n=>
        have hpe:=qaw.1 hl t ht
        unfold aggB at ha
        simp only[TyD]at h
        split at h <;> simp_all
     cases c with
     | ag l=>exact absurd rfl (this l)
     | _=>rfl
theorem zj4{w:World}{base:Nat}{l:List TypeId}(hl:zb0 P l=true)(hK:∀t∈l,∀fs:Array Field,P.underlying t=some (.struct fs)->P.cellsOf t=(fs.toList.map fun f=>P.cellsOf f.type).sum/\∀(j:Nat) f,fs.toList[j]?=some f->f.offset=((fs.toList.take j).map fun f=>P.cellsOf f.type).sum):
  ∀(ts:List TypeId) (vs:List Value) (ds:List (DataW Hh)) (ps:List MemPlace),(∀t∈ts,t∈l)->DataW.TrodAll enc P w 0 (fun _=>true) true ts vs ds ps->(∀(j:Nat) t v,ts[j]?=some t->vs[j]?=some v->Value.okWide P w .any base t v)->
  ∃ys:List T,Fits P ts ds ys/\ys.length=vs.length/\∀(i:Nat) y x,ys[i]?=some y->vs[i]?=some x->TRel (fun b _=>b<w.heap.size) w y x
 | [],vs,ds,ps,_,h,_=>by
   cases vs <;> cases ds <;> simp[DataW.TrodAll]at h
   exact⟨[],trivial,rfl,by simp⟩
 | t::ts,vs,ds,ps,ht,h,hok=>by
   obtain⟨v,vs',d,ds',p,q,rfl,rfl,rfl,h1,h2⟩:=ChangeShapes.trodAll_cons h
   have htl:=ht t qak
   obtain⟨fuel,h1⟩:=h1
   obtain⟨tr,g1,g2,g3,g4⟩:=zou hl hK fuel t _ d p htl h1
   obtain⟨ys,k1,k2,k3⟩:=zj4 hl hK ts vs' ds' q (fun t h=>ht t (qan _ h)) h2 (fun j t v a b=>hok (j+1) t v (by simpa using a) (by simpa using b))
   have hv:=hok 0 t v rfl rfl
   have hrel:TRel (fun b _=>b<w.heap.size) w (mkT (aggB P t) tr) v/\(mkT (aggB P t) tr).cells=tr:=by
    cases ha:aggB P t with
    | true=>
      have:∃cs,v= .agg cs:=by
       unfold aggB at ha
       unfold Value.okWide at hv
       split at ha
       ·rename_i hu
        rw[hu]at hv
        obtain⟨cs,rfl,_⟩:=hv
        exact⟨cs,rfl⟩
       ·cases ha
      obtain⟨cs,rfl⟩:=this
      refine⟨?_,rfl⟩
      exact .ag tr cs (by simpa [Value.cells]using g1.symm) (fun i y hy=>g2 i y (by simpa [Value.cells]using hy)) (fun i c y hc hy=>g3 i c y hc (by simpa [Value.cells]using hy))
    | false=>
      have hc:=zor hv hl htl ha
      have hc2:=zq0 hl htl g4 (by rw[zcv hl htl ha,g1,hc];rfl)
      rw[ha]at hc2
      refine⟨?_,hc2⟩
      rw[hc]at g1 g3
      match tr,g1 with
      | [c],_=>exact g3 0 c v rfl rfl
   refine⟨mkT (aggB P t) tr::ys,⟨⟨by rw[hrel.2],fuel,by rw[hrel.2];exact g4⟩,k1⟩,by simp[k2],fun i y x hy hx=>?_⟩
   cases i with
   | zero=>simp at hy hx;subst hy;subst hx;exact hrel.1
   | succ i=>exact k3 i y x (by simpa using hy) (by simpa using hx)
theorem zlP{f:FuncId}{w:World}{ys:List T}{args:Array Value}(hS:Sound P f (ys.map .t) [] fun r H'=>r= .ret (.b true)/\H'=[])(hl:ys.length=args.size)(hr:∀(i:Nat) y x,ys[i]?=some y->args[i]?=some x->TRel (fun b _=>b<w.heap.size) w y x)
  (hg:Glob (fun b _=>b<w.heap.size) w):
  Calls P f args w fun e w'=>e= .returned (.bool true)/\RowKit.Below w.heap.size w w':=by
 have hm:HRel ⟨fun b _=>b<w.heap.size,[],[],w⟩:=⟨rfl,by simp,by simp,fun b o _ ⟨i,p,k,h,_⟩=>by simp at h,fun b o h=>h,by simp,hg⟩
 refine Calls.mono (hS.2 ⟨fun b _=>b<w.heap.size,[],[],w⟩ args rfl hm ⟨by simp[hl],fun i s x hs hx=>?_⟩) ?_
 ·rw[qar]at hs
  cases hy:ys[i]? with
  | none=>rw[hy]at hs;cases hs
  | some y=>rw[hy]at hs;cases hs;exact .t _ _ (hr i y x hy hx)
 ·rintro e w' ⟨m',r,rfl,s,hm',hrr,rfl,hH⟩
  cases e with
  | returned x=>
    refine⟨by rw[SRel.v_eq hrr],s.os,s.tape,s.output,s.size,fun b hb=>s.block b hb fun o ⟨i,p,k,h,_⟩=>by simp at h⟩
  | _=>simp[zbX]at hrr
section law
open RowKit WideShapes ChangeShapes
theorem zow{f:Func}{s:ChangeSpec}{apart fresh handsOn again:Bool}{W W':World}{args:Array Value}{v:Value}{ds gs:List (DataW Hh)}{before pa pv:List MemPlace}
  (hW:DataW.Whole enc P f.params.toList s.vars apart W args.toList ds gs before)
  (hres:∀(b:Nat) (sp:Nat->Bool) (hd:Bool),DataW.TrodAll enc P W' b sp hd f.resultTypes.toList (v.resultList f.resultTypes.size) (s.fn Hh (ds++gs)).results [])
  (hargs:∀sp:Nat->Bool,(∀p∈before,sp p.block=true)->DataW.TrodAll enc P W' 0 sp true f.params.toList args.toList (s.fn Hh (ds++gs)).args pa)
  (hvars:∀sp:Nat->Bool,(∀p∈before,sp p.block=true)->DataW.TrodVars enc P W' sp s.vars (s.fn Hh (ds++gs)).vars pv)
  (hps:before=pa++pv)(hb:Below W.heap.size W W')
  (hok:∀(j:Nat) (t:TypeId) (r:Value),f.resultTypes[j]?=some t->(v.resultList f.resultTypes.size)[j]?=some r->Value.okWide P W' .any 0 t r):
  s.post enc P f apart fresh handsOn again W args v W':=by
 have hlt:∀p∈before,p.block<W.heap.size:=fun p hp=>hW.lt p hp
 have hold:∀p∈before,(fun b=>decide (b<W.heap.size)) p.block=true:=fun p hp=>by simpa using hlt p hp
 refine⟨ds,gs,before,[],pa,pv,hW,hres _ _ _,hargs _ hold,hvars _ hold,World.keptBut_mono (fun p hp=>⟨hp,?_⟩) (hb.frame (·∈before)),fun _=>?_⟩
 ·rw[hps,qbw]at hp
  exact Or.inr hp
 ·obtain⟨_,_,_,_,_,hz,hn⟩:=hW
  refine⟨hok,_,_,([]++pa)++pv,⟨[]++pa,pv,trodAll_append (hargs _ (fun _ _=>rfl)) (hres _ _ _),hvars _ (fun _ _=>rfl),rfl,?_,?_⟩,?_⟩
  ·intro b off hp
   have hin:MemPlace.cell b off∈before:=by rw[hps];simpa using hp
   rw[hb.frozen (hlt _ hin)]
   exact hz b off hin
  ·intro ha
   have:=hn ha
   rw[hps]at this
   simpa using this
  ·intro p hp _
   rw[hps]
   simpa using hp
theorem ziN{l:List TypeId}(hl:zb0 P l=true)(hlaid:laidOutB P=true)(hmaps:mapsRowed P=true)(hrows:∀t∈l,t<P.types.size):Kids P (·∈l):=by
 have K:=kids_rows hlaid hmaps
 have hp:∀t∈l,_:=qaw.1 hl
 refine⟨fun{t e} ht hu=>?_,fun{t e} ht hu=>?_,fun{t e n} ht hu=>?_,fun{t fs} ht hu=>?_,fun{t k e} ht hu=>?_⟩
 ·have:=hp t ht;simp[hu]at this
 ·have:=hp t ht
  simp only[hu,qau,qbT]at this
  exact this.1.2
 ·have:=hp t ht;simp[hu]at this
 ·obtain⟨_,k2,k3⟩:=K.struct (hrows t ht) hu
  refine⟨fun f hf=>?_,k2,k3⟩
  have:=hp t ht
  simp only[hu,qaw]at this
  simpa using this f hf
 ·have:=hp t ht;simp[hu]at this
theorem zh0{l:List TypeId}(hl:zb0 P l=true)(hlaid:laidOutB P=true)(hmaps:mapsRowed P=true)(hrows:∀t∈l,t<P.types.size){W W':World}(hb:Below W.heap.size W W'){sp:Nat->Bool}:
  ∀(ts:List TypeId) (vs:List Value) (ds:List (DataW Hh)) (ps:List MemPlace),(∀t∈ts,t∈l)->(∀p∈ps,p.block<W.heap.size)->(∀p∈ps,sp p.block=true)->DataW.TrodAll enc P W 0 (fun _=>true) true ts vs ds ps->DataW.TrodAll enc P W' 0 sp true ts vs ds ps
 | [],vs,ds,ps,_,_,_,h=>by
   cases vs <;> cases ds <;> simp[DataW.TrodAll]at h⊢
   exact h
 | t::ts,vs,ds,ps,ht,hlt,hsp,h=>by
   obtain⟨v,vs',d,ds',p,q,rfl,rfl,rfl,⟨fuel,h1⟩,h2⟩:=trodAll_cons h
   refine trodAll_cons_mk ⟨fuel,?_⟩ (zh0 hl hlaid hmaps hrows hb ts vs' ds' q (fun t h=>ht t (qan _ h)) (fun p hp=>hlt p (qb9 _ hp)) (fun p hp=>hsp p (qb9 _ hp)) h2)
   refine DataW.trod_stays (T:=(·∈l)) (ziN hl hlaid hmaps hrows) (fun{t e} ht hu=>?_) (fun h=>by cases h) (ht t qak) h1 (fun x hx=>hb.same (hlt x (qcg _ hx))) (fun x hx=>hsp x (qcg _ hx))
   have:=qaw.1 hl t ht
   simp only[hu,qau]at this
   simpa [qbq]using this.2
theorem zkJ{f:FuncId}{fn:Func}{s:ChangeSpec}{bt:TypeId}{l:List TypeId}{k:List (DataW Hh)->Prop}(hvars:s.vars=[])(hres:fn.resultTypes= #[bt])(hbt:P.underlying bt=some .bool)
  (hl:zb0 P l=true)(hlaid:laidOutB P=true)(hmaps:mapsRowed P=true)(hrows:l.all (fun t=>Nat.blt t P.types.size)=true)(hin:fn.params.toList.all (fun t=>l.contains t)=true)
  (hspec:∀ds:List (DataW Hh),ds.length=fn.params.size->(s.fn Hh ds).results=[.lit (.bool true)]/\(s.fn Hh ds).args=ds/\(s.fn Hh ds).vars=[])
  (hS:∀(ds:List (DataW Hh)) ys,Fits P fn.params.toList ds ys->k ds->Sound P f (ys.map .t) [] fun r H'=>r= .ret (.b true)/\H'=[])
  (W:World)(base:Nat)(args:Array Value)(ds gs:List (DataW Hh))(before:List MemPlace)(hval:∀(j:Nat) t v,fn.params[j]?=some t->args[j]?=some v->Value.okWide P W .any base t v)
  (hW:DataW.Whole enc P fn.params.toList s.vars false W args.toList ds gs before)(hk:k (ds++gs))(hG:Glob (fun b _=>b<W.heap.size) W:=by intro b cs h;exact absurd h (gtab_none b cs)):
  Calls P f args W fun e W'=>∃v,e= .returned v/\s.post enc P fn false true false false W args v W':=by
 have hW':=hW
 obtain⟨p,q,hA,hV,rfl,hfz,hnd⟩:=hW
 rw[hvars]at hV
 obtain⟨rfl,rfl⟩:=trodVars_none hV
 simp only[qaG]at hk hW'
 have hrows':∀t∈l,t<P.types.size:=fun t ht=>by have:=qaw.1 hrows t ht;simpa [qbq]using this
 have hin':∀t∈fn.params.toList,t∈l:=fun t ht=>by have:=qaw.1 hin t ht;simpa using this
 have K:=ziN hl hlaid hmaps hrows'
 obtain⟨ys,y1,y2,y3⟩:=zj4 (enc:=enc) hl (fun t ht fs hu=>(K.struct ht hu).2) fn.params.toList args.toList ds p hin' hA (fun j t v a b=>hval j t v (by simpa using a) (by simpa using b))
 have hlen:ds.length=fn.params.size:=by
  have:∀(ts:List TypeId) (ds:List (DataW Hh)) (ys:List T),Fits P ts ds ys->ds.length=ts.length:=by
   intro ts
   induction ts with
   | nil=>intro ds ys h;cases ds <;> cases ys <;> simp_all [Fits]
   | cons t ts ih=>intro ds ys h;cases ds <;> cases ys <;> simp[Fits]at h⊢;exact ih _ _ h.2
  simpa using this _ _ _ y1
 obtain⟨s1,s2,s3⟩:=hspec ds hlen
 refine Calls.mono (zlP (hS ds ys y1 hk) (by simpa using y2) (fun i y x hy hx=>y3 i y x hy (by simpa using hx)) hG) ?_
 rintro e W' ⟨rfl,hb⟩
 refine⟨_,rfl,zow (pa:=p) (pv:=[]) hW' (fun b sp hd=>?_) (fun sp hsp=>?_) (fun sp hsp=>?_) (by simp) hb (ok_one hres rfl (okWide_bool_mk hbt _))⟩
 ·rw[qaG,s1,hres]
  exact trodAll_cons_mk (shut_bool hbt _) trodAll_mk0
 ·rw[qaG,s2]
  exact zh0 hl hlaid hmaps hrows' hb _ _ _ _ hin' (fun x hx=>hW'.lt x (by simpa using hx)) (fun x hx=>hsp x (by simpa using hx)) hA
 ·rw[qaG,s3,hvars]
  rfl
end law
end Go.TL
