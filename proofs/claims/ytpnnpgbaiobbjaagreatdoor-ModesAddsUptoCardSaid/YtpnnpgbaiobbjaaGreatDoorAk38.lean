import Derived.ProofKit
import Derived.OpenShut
import Derived.Test.YtpnnpgbaiobbjaaGreatDoorAk37
set_option linter.all false
namespace Go.Proofs.YtpnnpgbaiobbjaaGreatDoor
open Go Go.TL
attribute [local irreducible] TR TO Then zao RetK Sound zab Kf GG zaZ
def zhN(p:Prog):Bool:=decide (1500≤wgP 1500 p)
theorem zdW(p:Prog)(hw:(T.ag (zax p)).w≤100000000):Pure Tryz.prog 9 [.t (.ag (zax p))] (.b (zhN p)):=by
 have hs:=zr9 p hw 1500 (by omega) (by omega)
 unfold zhN
 generalize wgP 1500 p=z at*
 unfold zax at*
 by_cases h:1500≤z
 ·rw[decide_eq_true h]
  exact zwce
 ·rw[decide_eq_false h]
  exact zwce
set_option maxHeartbeats 16000000 in
theorem zns (p:Prog) (hw:(T.ag (zax p)).w≤2200000) (hz:zhN p=false) (e:Int) (he:e≠0) (cx:Pure Tryz.prog 11 [.t (.ag (zax p))] (.tup [.t (.ag [.sl 2 [],.sl 8 []]),.i e])):Pure Tryz.prog 5 [.t (.ag (zax p))] (.b true):=by
 have hh:=zdW p (by omega)
 have ha:=zdM
 rw[hz]at hh
 unfold zax at*
 refine so Tryz.func5 ?_
 repeat' (first|refine wu ?_|exact wkc|intro hc|refine wk2 ?_ ?_|refine wv hh ?_|refine wv ha ?_|refine wv cx ?_|fail)
 all_goals first
  | exact wkr
  | (exfalso;omega)
set_option maxHeartbeats 64000000 in
theorem zt8 (p:Prog) (hw:(T.ag (zax p)).w≤2200000) (hz:zhN p=false) (hc:(zaN p).2=0) (hs:(zba (expF p)).2=0):Pure Tryz.prog 5 [.t (.ag (zax p))] (.b true):=by
 have hh:=zdW p (by omega)
 have haw:=zdM
 have c1:=zgq p (by omega)
 have cx:=zf6 p hw _ (fun h=>absurd hc h) (fun _ _=>rfl) (fun _ h=>absurd hs h)
 rw[hz]at hh
 have hok:=ztN (zis hc)
 obtain⟨f,hf0,hf⟩:=zsh hok (zir hc)
 obtain⟨hl1,hl2⟩:=zsg hok
 have hwN:∀n∈p.nodes,(nodT n).w≤2200000:=fun n hn=>by
  have h4:(T.ag (zax p)).w=1+((T.sl 2 (p.enums.map enT)).w+((T.sl 8 (p.nodes.map nodT)).w+0)):=by rw[w_ag];rfl
  have h5:=zav (f:=nodT) (sz:=8) hn
  omega
 have cst:∀n∈p.nodes,Pure Tryz.prog 18 [.t (.sl 1 (n.autos.map zae))] (.i (staD 4 n.autos:Nat))/\staD 4 n.autos≤2200000:=fun n hn=>by
  have h1:=hwN n hn
  have h2:=zdJ n
  have h3:=zfU 100000000 n.autos (by omega) (by omega)
  have h4:=zne 100000000 n.autos
  rw[ztW 4 100000000 n.autos (zrl hok hn) (by decide)]at h3 h4
  exact⟨h3,by omega⟩
 have csm:∀n∈p.nodes,Pure Tryz.prog 13 [.t (.ag (zax ⟨[],[plnN n]⟩)),.t (.ag (zax ⟨[],[plnN n]⟩))] (.b true):=fun n hn=>by
  refine zm7 ⟨[],[plnN n]⟩ ⟨qaK _,(fun u hu=>by cases hu),leB,fun m hm=>?_⟩ fun m hm=>?_
  ·rw[qaG.1 hm]
   have h1:=hwN n hn
   rw[zoA]at h1⊢
   have hz:wsum zae (plnN n).autos=0:=rfl
   show 9+n.name.length+wsum zaa n.ins+wsum zaa n.outs+wsum zaa n.locals+wsum equT n.eqs+wsum zae (plnN n).autos+wsum exT n.assume+wsum exT n.ensure≤_
   omega
  ·rw[qaG.1 hm]
   rfl
 have hme:((expF p).enums.map enT).length=(p.enums.map enT).length+countP p.nodes:=by rw[qaa,qaa,hl2]
 have hmn:(((expF p).nodes.map plnN).map nodT).length=(p.nodes.map nodT).length+nS p p.nodes.length:=by rw[qaa,qaa,qaa,hl1]
 have hN0:∀j x,(expF p).nodes[j]?=some x->(((expF p).nodes.map plnN).map nodT)[j]?=some (nodT (plnN x)):=fun j x h=>by rw[qau,qau,h];rfl
 have hN1:∀k (hk:k<p.nodes.length),f k≤f (k+1)/\f (k+1)<(((expF p).nodes.map plnN).map nodT).length/\(∀j,f k≤j->j<f (k+1)->∃x:Nod,(((expF p).nodes.map plnN).map nodT)[j]?=some (.ag (nodC x))/\x.name≠p.nodes[k].name)/\
   ∃L Q,(((expF p).nodes.map plnN).map nodT)[f (k+1)]?=some (.ag [.s p.nodes[k].name,zac p.nodes[k].ins,zac p.nodes[k].outs,zac (p.nodes[k].locals++L),.sl 7 ((p.nodes[k].eqs++Q).map equT),.sl 1 [],.sl 6 (p.nodes[k].assume.map exT),.sl 6 (p.nodes[k].ensure.map exT)]):=fun k hk=>by
  obtain⟨q1,q2,q3,L,Q,q4⟩:=hf k hk
  refine⟨q1,by rw[qaa,qaa];exact q2,fun j j1 j2=>?_,L,Q,?_⟩
  ·obtain⟨x,x1,x2⟩:=q3 j j1 j2
   exact⟨plnN x,hN0 j x x1,x2⟩
  ·rw[hN0 _ _ q4]
   rfl
 have hpr:zax ⟨(expF p).enums,(expF p).nodes.map plnN⟩=[.sl 2 ((expF p).enums.map enT),.sl 8 (((expF p).nodes.map plnN).map nodT)]:=rfl
 rw[hpr]at cx
 have hNb:(((expF p).nodes.map plnN).map nodT).length≤90000000:=by
  have:=(zhD hok hw).ns
  rw[qaa,qaa]
  exact this
 have hEb:((expF p).enums.map enT).length≤90000000:=by
  have:=(zhD hok hw).es
  rw[qaa]
  exact this
 clear hf hl1 hl2 hN0 hpr hs hz hwN
 generalize ((expF p).nodes.map plnN).map nodT=NN at*
 generalize (expF p).enums.map enT=ES at*
 have hpC:zax p=[.sl 2 (p.enums.map enT),.sl 8 (p.nodes.map nodT)]:=rfl
 have hnl:p.nodes.length≤2200000:=by
  have h1:=zai nodT 8 p.nodes
  rw[hpC,w_ag]at hw
  exact zwev
 have hmN:(p.nodes.map nodT).length=p.nodes.length:=qaa _
 have hSb:∀k,k≤p.nodes.length->nS p k≤NN.length:=fun k hk=>by
  have:nS p k≤nS p p.nodes.length:=by
   unfold nS
   rw[qah]
   conv=>rhs;rw[<-qaS k p.nodes,qal,qbB]
   exact qbx _ _
  omega
 rw[hpC]at hh c1 cx⊢
 clear hw hpC
 refine so Tryz.func5 ?_
 repeat' (first|refine wkt ?_|refine wv hh ?_|refine wv cx ?_|exact wkc|(intro hc;exact absurd rfl hc)|intro hc|refine wk2 ?_ ?_|fail)
 refine TR.zal p.nodes.length (fun _=>True) (fun k=>[(1,.cp [.sl 2 (p.enums.map enT),.sl 8 (p.nodes.map nodT)] 0),(3,.cp [.sl 2 ES,.sl 8 NN] 0),(5,.i (nS p k:Nat)),(6,.i (f k:Nat)),(7,.i k)]) (fun _=>[]) trivial (fun k hlt _=>?_) (fun _=>?_) ⟨rfl,rfl,rfl,by rw[hf0];rfl,rfl,trivial⟩ rfl
 ·have hx:=zeV hlt
  obtain⟨q1,q2,q3,L,Q,q4⟩:=hN1 k hlt
  obtain⟨d1,d2⟩:=cst _ (qad hlt)
  have d3:=csm _ (qad hlt)
  have hSn:=zrd hlt
  have hSa:=hSb k (by omega)
  have hSc:=hSb (k+1) (by omega)
  rw[hSn]at hSc
  clear hN1 cst csm hSb hh c1 cx haw
  generalize p.nodes[k]=n at*
  generalize hst:staD 4 n.autos=st at*
  have hnC:nodC n=[.s n.name,zac n.ins,zac n.outs,zac n.locals,.sl 7 (n.eqs.map equT),.sl 1 (n.autos.map zae),.sl 6 (n.assume.map exT),.sl 6 (n.ensure.map exT)]:=rfl
  rw[hnC]at hx
  have hP1:zax ⟨[],[plnN n]⟩=[.sl 2 [],.sl 8 [.ag [.s n.name,zac n.ins,zac n.outs,zac n.locals,.sl 7 (n.eqs.map equT),.sl 1 [],.sl 6 (n.assume.map exT),.sl 6 (n.ensure.map exT)]]]:=rfl
  rw[hP1]at d3
  clear hP1 hnC
  have hdl:zac n.locals= .sl 3 (n.locals.map zaa):=rfl
  have hdl2:zac (n.locals++L)= .sl 3 ((n.locals++L).map zaa):=rfl
  have ht1:((n.locals++L).map zaa).take (n.locals.map zaa).length=n.locals.map zaa:=by rw[qal,List.take_left'];rfl
  have ht2:((n.eqs++Q).map equT).take (n.eqs.map equT).length=n.eqs.map equT:=by rw[qal,List.take_left'];rfl
  have k1:((n.locals++L).map zaa).length=(n.locals.map zaa).length+L.length:=by simp
  have k2:((n.eqs++Q).map equT).length=(n.eqs.map equT).length+Q.length:=by simp
  rw[hdl]at hx d3
  rw[hdl2]at q4
  clear hdl hdl2
  repeat' (first|refine zqx ?_|refine zqp ?_|refine wv d1 ?_|refine zqw ?_|refine wkt ?_|refine zab.exit ?_|exact wkc|(intro hc;exact absurd rfl hc)|(intro hc;exfalso;omega)|intro hc|(apply TO.want;exact rfl)|refine wk2 ?_ ?_|refine wk ?_|fail)
  refine TR.zal (f (k+1)-f k) (fun _=>True) (fun j=>[(1,.cp [.sl 2 (p.enums.map enT),.sl 8 (p.nodes.map nodT)] 0),(3,.cp [.sl 2 ES,.sl 8 NN] 0),(5,.i (nS p k+st:Nat)),(6,.i (f k+j:Nat)),(7,.i k),(8,.ref 0 0)]) (fun _=>[.cells [.t (.s n.name),.t (zac n.ins),.t (zac n.outs),.t (.sl 3 (n.locals.map zaa)),.t (.sl 7 (n.eqs.map equT)),.t (.sl 1 (n.autos.map zae)),.t (.sl 6 (n.assume.map exT)),.t (.sl 6 (n.ensure.map exT))]]) trivial (fun j hlj _=>?_) (fun _=>?_) ⟨rfl,rfl,by rw[qbT];rfl,rfl,rfl,rfl,trivial⟩ rfl
  ·obtain⟨x,hy,hne⟩:=q3 (f k+j) (by omega) (by omega)
   unfold nodC at hy
   clear q3 q4 ht1 ht2 k1 k2 d3 d1
   generalize hat:f k+j=at0 at*
   repeat' (first|refine zqq ?_|(intro hc;exact absurd hc hne)|refine zqw ?_|refine wkt ?_|refine zab.exit ?_|exact wkc|(intro hc;exact absurd rfl hc)|(intro hc;exfalso;omega)|intro hc|(apply TO.want;exact rfl)|refine wk2 ?_ ?_|refine wk ?_|fail)
   exact zab.zat hlj trivial (by(try dsimp only);rw[<-hat];exact⟨rfl,rfl,rfl,rfl,rfl,rfl,trivial⟩) rfl
  ·rw[show f k+(f (k+1)-f k)=f (k+1) by omega]
   generalize hat1:f (k+1)=at1 at*
   repeat' (first|refine zqx ?_|(apply TO.indexAddr zag;(iterate 8 exact rfl);omega;exact q4)|(apply TO.zoo zag;(iterate 8 exact rfl);omega;(first|rw[ht1]|rw[ht2]))|refine wvS d3 ?_|refine zqw ?_|refine wkt ?_|refine zab.exit ?_|exact wkc|(intro hc;exact absurd rfl hc)|(intro hc;exfalso;omega)|intro hc|(apply TO.want;exact rfl)|refine wk2 ?_ ?_|refine wk ?_|fail)
   exact zab.ziJ 0 hlt trivial rfl rfl rfl rfl rfl (by(try dsimp only);rw[hSn,hat1];exact⟨rfl,rfl,rfl,rfl,rfl,trivial⟩)
 ·repeat' (first|refine wv c1 ?_|refine wv haw ?_|refine zqw ?_|refine wkt ?_|refine zab.exit ?_|exact wkc|(intro hc;exact absurd rfl hc)|(intro hc;exfalso;omega)|intro hc|(apply TO.want;exact rfl)|refine wk2 ?_ ?_|refine wk ?_|fail)
  exact wkr
theorem zj5(p:Prog)(hw:(T.ag (zax p)).w≤2200000):Pure Tryz.prog 5 [.t (.ag (zax p))] (.b true):=by
 cases hz:zhN p
 ·by_cases hc:(zaN p).2=0
  ·by_cases hs:(zba (expF p)).2=0
   ·exact zt8 p hw hz hc hs
   ·exact zns p hw hz 3 (by decide) (zf6 p hw _ (fun h=>absurd hc h) (fun _ h=>absurd h hs) (fun _ _=>rfl))
  ·exact zns p hw hz _ hc (zf6 p hw _ (fun _=>rfl) (fun h=>absurd h hc) (fun h=>absurd h hc))
 ·have hh:=zdW p (by omega)
  have ha:=zdM
  rw[hz]at hh
  unfold zax at*
  refine so Tryz.func5 ?_
  repeat' (first|refine wu ?_|exact wkc|intro hc|refine wk2 ?_ ?_|refine wv hh ?_|refine wv ha ?_|fail)
  exact wkr
end Go.Proofs.YtpnnpgbaiobbjaaGreatDoor
namespace Go.TL
open Go
variable {Hh:Type}{enc:TypeId×Value->Hh}{P:Program}
def aggB(P:Program)(t:TypeId):Bool:=
 match P.underlying t with
 | some (.struct _)=>true
 | _=>false
def zbQ(P:Program)(l:List TypeId):Bool:=l.all fun t=>match P.underlying t with
 | some .bool|some (.int _)|some .string=>P.cellsOf t == 1
 | some (.slice e)=>P.cellsOf t == 1 && l.contains e && Nat.blt 0 (P.cellsOf e)
 | some (.struct fs)=>fs.toList.all fun f=>l.contains f.type
 | _=>false
def mkT(agg:Bool)(ts:List T):T:=bif agg then .ag ts else ts.headD (.v undef)
def TyD(P:Program):Nat->TypeId->DataW Hh->List T->Prop
 | 0,_,_,_=>False
 | n+1,t,d,ts=>match P.underlying t with
   | some .bool=>∃b,d= .lit (.bool b)/\ts=[.v (.bool b)]
   | some (.int k)=>∃i,d= .lit (.int k i)/\ts=[.v (.int k i)]/\(Lit.int k i).wf=true
   | some .string=>∃l:List UInt8,d= .lit (.string l)/\ts=[.v (str l)]/\l.length≤maxLen
   | some (.slice e)=>∃(els sp:List (DataW Hh)) (es:List T),((d= .nil/\els=[])\/d= .slice els sp)/\ts=[.sl (P.cellsOf e) es]/\es.length=els.length/\es.length≤maxLen/\
      ∀(i:Nat) x y,els[i]?=some x->es[i]?=some y->y=mkT (aggB P e) y.cells/\TyD P n e x y.cells
   | some (.struct fs)=>∃xs:List (DataW Hh),d= .agg xs/\ts.length=P.cellsOf t/\xs.length=fs.size/\∀(i:Nat) f x,fs[i]?=some f->xs[i]?=some x->TyD P n f.type x ((ts.drop f.offset).take (P.cellsOf f.type))
   | _=>False
theorem zcl{l:List TypeId}(hl:zbQ P l=true){t:TypeId}(ht:t∈l)(ha:aggB P t=false):P.cellsOf t=1:=by
 have:=qaB.1 hl t ht
 unfold aggB at ha
 split at this <;> simp_all
theorem zuo{w:World}{b o:Nat}{y:Value}(h:w.cell? ⟨b,o,none⟩=some y):b<w.heap.size:=by
 unfold World.cell? at h
 cases hq:w.heap[b]? with
 | none=>rw[hq]at h;cases h
 | some ob=>exact(qak.1 hq).1
theorem zhF{A:Foot}{w:World}{n:Nat}{cs:List Value}:∀(gs:List Field) (xs:List (DataW Hh)) (o:Nat),(∀(j:Nat) g,gs[j]?=some g->g.offset=o+((gs.take j).map fun f=>P.cellsOf f.type).sum)->o+(gs.map fun f=>P.cellsOf f.type).sum≤cs.length->
  xs.length=gs.length->(∀(j:Nat) g x,gs[j]?=some g->xs[j]?=some x->∃ts:List T,ts.length=((cs.drop g.offset).take (P.cellsOf g.type)).length/\(∀(i:Nat) c y,ts[i]?=some c->((cs.drop g.offset).take (P.cellsOf g.type))[i]?=some y->TRel A w c y)/\TyD P n g.type x ts)->
  ∃ts:List T,ts.length=(gs.map fun f=>P.cellsOf f.type).sum/\(∀(i:Nat) c y,ts[i]?=some c->cs[o+i]?=some y->TRel A w c y)/\(∀(j:Nat) g x,gs[j]?=some g->xs[j]?=some x->TyD P n g.type x ((ts.drop (g.offset-o)).take (P.cellsOf g.type)))
 | [],xs,o,_,_,hx,_=>⟨[],rfl,by simp,by simp⟩
 | g::gs,xs,o,ho,hl,hx,hf=>by
   cases xs with
   | nil=>simp at hx
   | cons x xs=>
     have h0:g.offset=o:=by simpa using ho 0 g rfl
     simp only[qaj,qao]at hl
     obtain⟨t0,a1,a2,a3⟩:=hf 0 g x rfl rfl
     have a1':t0.length=P.cellsOf g.type:=by rw[a1,h0];simp;omega
     obtain⟨ts,b1,b2,b3⟩:=zhF gs xs (o+P.cellsOf g.type) (fun j f hj=>by
      have:=ho (j+1) f (by simpa using hj)
      simp only[qaM,qaj,qao]at this
      omega) (by omega) (by simpa using hx) (fun j f y hj hy=>hf (j+1) f y (by simpa using hj) (by simpa using hy))
     refine⟨t0++ts,by simp[a1',b1],fun i c y hc hy=>?_,fun j f y hj hy=>?_⟩
     ·by_cases hi:i<t0.length
      ·rw[qaq hi]at hc
       refine a2 i c y hc ?_
       rw[qaW,if_pos (by omega),qbb,h0];exact hy
      ·rw[qax (by omega)]at hc
       refine b2 _ c y hc ?_
       rw[show o+P.cellsOf g.type+(i-t0.length)=o+i from by omega];exact hy
     ·cases j with
      | zero=>
        simp at hj hy
        subst hj;subst hy
        rw[h0,qbH,qbh,<-a1',qcM]
        exact a3
      | succ j=>
        have hj':gs[j]?=some f:=by simpa using hj
        have:=ho (j+1) f hj
        simp only[qaM,qaj,qao]at this
        have hd:(t0++ts).drop (f.offset-o)=ts.drop (f.offset-(o+P.cellsOf g.type)):=by
         rw[show f.offset-o=t0.length+(f.offset-(o+P.cellsOf g.type)) from by omega,qcz,List.drop_eq_nil_of_le (by omega),qa1,Nat.add_sub_cancel_left]
        rw[hd]
        exact b3 j f y hj' (by simpa using hy)
theorem znW:∀(gs:List Field) (o i:Nat),(∀(j:Nat) g,gs[j]?=some g->g.offset=o+((gs.take j).map fun f=>P.cellsOf f.type).sum)->o≤i->i<o+(gs.map fun f=>P.cellsOf f.type).sum->∃(j:Nat) (g:Field),gs[j]?=some g/\g.offset≤i/\i<g.offset+P.cellsOf g.type
 | [],o,i,_,h1,h2=>by simp at h2;omega
 | g::gs,o,i,ho,h1,h2=>by
   have h0:g.offset=o:=by simpa using ho 0 g rfl
   simp only[qaj,qao]at h2
   by_cases hi:i<o+P.cellsOf g.type
   ·exact⟨0,g,rfl,by omega,by omega⟩
   ·obtain⟨j,f,hj,h3⟩:=znW gs (o+P.cellsOf g.type) i (fun j f hj=>by
     have:=ho (j+1) f (by simpa using hj)
     simp only[qaM,qaj,qao]at this
     omega) (by omega) (by omega)
    exact⟨j+1,f,by simpa using hj,h3⟩
theorem zph{w:World}{base:Nat}{held:Bool}{l:List TypeId}(hl:zbQ P l=true)(hK:∀t∈l,∀fs:Array Field,P.underlying t=some (.struct fs)->P.cellsOf t=(fs.toList.map fun f=>P.cellsOf f.type).sum/\∀(j:Nat) f,fs.toList[j]?=some f->f.offset=((fs.toList.take j).map fun f=>P.cellsOf f.type).sum):∀(n:Nat) (t:TypeId) (cs:List Value) (d:DataW Hh) (ps:List MemPlace),t∈l->DataW.trod enc P w base (fun _=>true) held n t cs=some (d,ps)->
  ∃ts:List T,ts.length=cs.length/\(∀(i:Nat) x,cs[i]?=some x->x.oneCell'=true)/\(∀(i:Nat) c x,ts[i]?=some c->cs[i]?=some x->TRel (fun b _=>b<w.heap.size) w c x)/\TyD P n t d ts:=by
 intro n
 induction n with
 | zero=>intro t cs d ps ht h;simp[DataW.trod]at h
 | succ n ih=>
   intro t cs d ps ht h
   have hp:=qaB.1 hl t ht
   have one:∀(x:Value) (c:T),x.oneCell'=true->TRel (fun b _=>b<w.heap.size) w c x->(∀(i:Nat) y,[x][i]?=some y->y.oneCell'=true)/\(∀(i:Nat) c' y,[c][i]?=some c'->[x][i]?=some y->TRel (fun b _=>b<w.heap.size) w c' y):=by
    intro x c hx hr
    refine⟨fun i y hy=>?_,fun i c' y hc hy=>?_⟩
    ·cases i with
     | zero=>simp at hy;subst hy;exact hx
     | succ i=>simp at hy
    ·cases i with
     | zero=>simp at hy hc;subst hy;subst hc;exact hr
     | succ i=>simp at hy
   cases hu:P.underlying t with
   | none=>rw[hu]at hp;cases hp
   | some td=>
     rw[hu]at hp
     cases td with
     | bool=>
       obtain⟨b,rfl,hx⟩:=DataW.trod_bool hu h
       cases hx
       obtain⟨o1,o2⟩:=one (.bool b) (.v (.bool b)) rfl (.v _)
       exact⟨[.v (.bool b)],rfl,o1,o2,by simp only[TyD,hu];exact⟨b,rfl,rfl⟩⟩
     | int k=>
       obtain⟨i,rfl,hx,hwf⟩:=DataW.trod_int hu h
       cases hx
       obtain⟨o1,o2⟩:=one (.int k i) (.v (.int k i)) rfl (.v _)
       exact⟨[.v (.int k i)],rfl,o1,o2,by simp only[TyD,hu];exact⟨i,rfl,rfl,hwf⟩⟩
     | string=>
       obtain⟨s,rfl,hx,hlen⟩:=DataW.trod_string hu h
       cases hx
       obtain⟨a⟩:=s
       obtain⟨o1,o2⟩:=one (.string ⟨a⟩) (.v (str a.toList)) rfl (.v _)
       exact⟨[.v (str a.toList)],rfl,o1,o2,by simp only[TyD,hu];exact⟨a.toList,rfl,rfl,hlen⟩⟩
     | slice e=>
       simp only[qaz,qbU,beq_iff_eq]at hp
       obtain⟨⟨_,he⟩,hpos⟩:=hp
       have hpos':0<P.cellsOf e:=by simpa [qbo]using hpos
       rcases DataW.trod_slice hu h with ⟨rfl,hx⟩|⟨a,len,cap,elems,rest,n',hn,rfl,hx,hb,hlc,hcm,hel,hat,hsp,_⟩
       ·cases hx
        obtain⟨o1,o2⟩:=one (.slice none 0 0) (.sl (P.cellsOf e) []) rfl (.nil _)
        exact⟨[.sl (P.cellsOf e) []],rfl,o1,o2,by simp only[TyD,hu];exact⟨[],[],[],by simp,rfl,rfl,qaK _,by simp⟩⟩
       ·cases hn
        cases hx
        have hev:∀i,i<len->∃(cs':List Value) (x:DataW Hh×List MemPlace) (ts:List T),w.cells? base (a.add (i*P.cellsOf e)) (P.cellsOf e)=some cs'/\elems[i]?=some x/\ts.length=cs'.length/\(∀(j:Nat) y,cs'[j]?=some y->y.oneCell'=true)/\
          (∀(j:Nat) c y,ts[j]?=some c->cs'[j]?=some y->TRel (fun b _=>b<w.heap.size) w c y)/\TyD P n e x.1 ts:=by
         intro i hi
         have hx:elems[i]?=some (elems[i]'(by omega)):=qac _
         have:=hat i hi
         rw[hx,qap]at this
         obtain⟨cs',h1,h2⟩:=this
         obtain⟨ts,g1,g2,g3,g4⟩:=ih e cs' _ _ he h2
         exact⟨cs',_,ts,h1,hx,g1,g2,g3,g4⟩
        have hspot:0<cap->a.spot=none:=by
         intro hc
         have key:∃i cs',i<cap/\i=0/\w.cells? base (a.add (i*P.cellsOf e)) (P.cellsOf e)=some cs':=by
          by_cases hl0:0<len
          ·obtain⟨cs',_,_,h1,_⟩:=hev 0 hl0
           exact⟨0,cs',hc,rfl,h1⟩
          ·have hlen:len=0:=by omega
           obtain⟨h1,h2⟩:=hsp rfl
           have hr:rest[0]?=some (rest[0]'(by omega)):=qac _
           have:=h2 0 (by omega)
           rw[hr,qap]at this
           obtain⟨cs',h3,_⟩:=this
           exact⟨0,cs',hc,rfl,by rw[hlen]at h3;simpa using h3⟩
         obtain⟨i,cs',_,rfl,h1⟩:=key
         obtain⟨_,_,h3⟩:=World.cells?_some h1
         obtain⟨_,h4,_⟩:=World.cells?_some h1
         have h5:=h3 0 hpos'
         have h6:cs'[0]?=some (cs'[0]'(by omega)):=qac _
         rw[h6]at h5
         simp only[qca,Addr.add,if_true]at h5
         unfold World.cell? at h5
         split at h5
         ·split at h5
          ·cases h5
          ·rename_i hs;simpa using hs
         ·cases h5
        by_cases hcap0:cap=0
        ·subst hcap0
         have hl0:len=0:=by omega
         subst hl0
         have he0:elems=[]:=qaP hel
         subst he0
         obtain⟨o1,o2⟩:=one (.slice (some a) 0 0) (.sl (P.cellsOf e) []) rfl (.empty _ _)
         exact⟨[.sl (P.cellsOf e) []],rfl,o1,o2,by simp only[TyD,hu];exact⟨[],_,[],.inr rfl,rfl,rfl,qaK _,by simp⟩⟩
        obtain⟨ab,ao,asp⟩:=a
        have has:=hspot (by omega)
        simp only at has
        subst has
        have hex:∀i,∃ts:List T,i<len->∃(cs':List Value) (x:DataW Hh×List MemPlace),w.cells? base ((⟨ab,ao,none⟩:Addr).add (i*P.cellsOf e)) (P.cellsOf e)=some cs'/\elems[i]?=some x/\ts.length=cs'.length/\(∀(j:Nat) y,cs'[j]?=some y->y.oneCell'=true)/\
          (∀(j:Nat) c y,ts[j]?=some c->cs'[j]?=some y->TRel (fun b _=>b<w.heap.size) w c y)/\TyD P n e x.1 ts:=by
         intro i
         by_cases hi:i<len
         ·obtain⟨cs',x,ts,h⟩:=hev i hi
          exact⟨ts,fun _=>⟨cs',x,h⟩⟩
         ·exact⟨[],fun h=>absurd h hi⟩
        obtain⟨f,hf⟩:=qbM hex
        have hfl:∀i,i<len->(f i).length=P.cellsOf e:=by
         intro i hi
         obtain⟨cs',x,h1,h2,h3,_⟩:=hf i hi
         obtain⟨_,h4,_⟩:=World.cells?_some h1
         omega
        have hmk:∀i,i<len->(mkT (aggB P e) (f i)).cells=f i:=by
         intro i hi
         unfold mkT
         cases ha:aggB P e with
         | true=>rfl
         | false=>
           have h1:=hfl i hi
           rw[zcl hl he ha]at h1
           match hfi:f i,h1 with
           | [c],_=>
             obtain⟨cs',x,g1,g2,g3,g4,g5,g6⟩:=hf i hi
             rw[hfi]at g6
             have:∀l,c≠ .ag l:=by
              intro l hc
              subst hc
              cases n with
              | zero=>exact g6
              | succ n=>
                have hpe:=qaB.1 hl e he
                unfold aggB at ha
                simp only[TyD]at g6
                split at g6 <;> simp_all
             cases c with
             | ag l=>exact absurd rfl (this l)
             | _=>rfl
        have hcell:∀i j,i<len->j<P.cellsOf e->∃y,w.cell? ⟨ab,ao+(i*P.cellsOf e+j),none⟩=some y/\y.oneCell'=true/\∀c,(f i)[j]?=some c->TRel (fun b _=>b<w.heap.size) w c y:=by
         intro i j hi hj
         obtain⟨cs',x,g1,g2,g3,g4,g5,g6⟩:=hf i hi
         obtain⟨_,h4,h5⟩:=World.cells?_some g1
         have h6:=h5 j hj
         have h7:cs'[j]?=some (cs'[j]'(by omega)):=qac _
         rw[h7,zbs,zbs,qaZ]at h6
         exact⟨_,h6,g4 j _ h7,fun c hc=>g5 j c _ hc h7⟩
        obtain⟨es,hes⟩:∃es:List T,es=(List.range len).map fun i=>mkT (aggB P e) (f i):=⟨_,rfl⟩
        have hesl:es.length=len:=by rw[hes];simp
        have heg:∀(i:Nat) y,es[i]?=some y->i<len/\y=mkT (aggB P e) (f i):=by
         intro i y hy
         have hi:=(qab.1 hy).1
         rw[hesl]at hi
         refine⟨hi,?_⟩
         rw[hes]at hy
         simp[hi]at hy
         exact hy.symm
        have hrel:TRel (fun b _=>b<w.heap.size) w (.sl (P.cellsOf e) es) (.slice (some ⟨ab,ao,none⟩) es.length cap):=by
         have dm:∀i j,j<P.cellsOf e->(i*P.cellsOf e+j) / P.cellsOf e=i/\(i*P.cellsOf e+j) % P.cellsOf e=j:=fun i j hj=>by
          rw[qcr]
          exact⟨by rw[Nat.mul_add_div hpos',Nat.div_eq_of_lt hj];rfl,by rw[Nat.mul_add_mod,Nat.mod_eq_of_lt hj]⟩
         refine .sl _ es ab ao cap (fun q=>(w.cell? ⟨ab,ao+q,none⟩).getD undef) (by omega) (fun i y hy=>?_) (fun i j hi hj=>?_) (fun i j hi hj=>?_) (fun i j hi hj=>?_) (fun i y j c hy hc=>?_)
         ·obtain⟨hi,rfl⟩:=heg i y hy
          rw[hmk i hi,hfl i hi]
         ·obtain⟨y,h1,_⟩:=hcell i j (by omega) hj
          exact zuo h1
         ·obtain⟨y,h1,_⟩:=hcell i j (by omega) hj
          rw[h1];rfl
         ·obtain⟨y,h1,h2,_⟩:=hcell i j (by omega) hj
          simp only[h1];exact h2
         ·obtain⟨hi,rfl⟩:=heg i y hy
          rw[hmk i hi]at hc
          have hj:j<P.cellsOf e:=by rw[<-hfl i hi];exact(qab.1 hc).1
          obtain⟨y,h1,h2,h3⟩:=hcell i j hi hj
          simp only[h1];exact h3 c hc
        rw[hesl]at hrel
        obtain⟨o1,o2⟩:=one (.slice (some ⟨ab,ao,none⟩) len cap) (.sl (P.cellsOf e) es) rfl hrel
        refine⟨[.sl (P.cellsOf e) es],rfl,o1,o2,?_⟩
        simp only[TyD,hu]
        refine⟨elems.map (·.1),rest.map (·.1),es,.inr rfl,rfl,by rw[hesl,qaa,hel],by omega,fun i x y hx hy=>?_⟩
        obtain⟨hi,rfl⟩:=heg i y hy
        rw[hmk i hi]
        refine⟨rfl,?_⟩
        obtain⟨cs',x',g1,g2,g3,g4,g5,g6⟩:=hf i hi
        rw[qau,g2]at hx
        cases hx
        exact g6
     | struct fs=>
       obtain⟨xs,n',hn,hx,hlen,hxl,hat⟩:=DataW.trod_struct hu h
       cases hn
       cases hx
       have hpf:∀f∈fs.toList,f.type∈l:=by
        intro f hf
        simpa using qaB.1 hp f hf
       obtain⟨hk1,hk2⟩:=hK t ht fs hu
       have hfield:∀(j:Nat) g,fs.toList[j]?=some g->∃x,xs[j]?=some x/\DataW.trod enc P w base (fun _=>true) held n g.type ((cs.drop g.offset).take (P.cellsOf g.type))=some x:=by
        intro j g hg
        have hj:=(qab.1 hg).1
        have hx:xs[j]?=some (xs[j]'(by simp at hj;omega)):=qac _
        exact⟨_,hx,by rw[hat j g (by simpa using hg),hx]⟩
       obtain⟨ts,g1,g2,g3⟩:=zhF (A:=fun b _=>b<w.heap.size) (w:=w) (n:=n) (cs:=cs) (P:=P) fs.toList (xs.map (·.1)) 0 (fun j g hg=>by rw[qaO];exact hk2 j g hg) (by omega) (by simpa using hxl) (fun j g x hg hx=>by
        obtain⟨x',h1,h2⟩:=hfield j g hg
        rw[qau,h1]at hx
        cases hx
        obtain⟨ts,e1,e2,e3,e4⟩:=ih g.type _ x'.1 x'.2 (hpf g (qat hg)) h2
        exact⟨ts,e1,e3,e4⟩)
       refine⟨ts,by omega,fun i x hi=>?_,fun i c x hc hx=>g2 i c x hc (by rw[qaO];exact hx),?_⟩
       ·obtain⟨j,g,hj,hoi,hoi2⟩:=znW (P:=P) fs.toList 0 i (fun j g hg=>by rw[qaO];exact hk2 j g hg) (qaK _) (by have:=(qab.1 hi).1;omega)
        obtain⟨x',h1,h2⟩:=hfield j g hj
        obtain⟨ts',e1,e2,e3,e4⟩:=ih g.type _ x'.1 x'.2 (hpf g (qat hj)) h2
        refine e2 (i-g.offset) x ?_
        rw[qaW,if_pos (by omega),qbb,show g.offset+(i-g.offset)=i from by omega];exact hi
       ·simp only[TyD,hu]
        refine⟨xs.map (·.1),rfl,by omega,by rw[qaa];exact hxl,fun i f x hf hx=>?_⟩
        have:=g3 i f x (by simpa using hf) hx
        simpa using this
     | _=>cases hp
def Fits(P:Program):List TypeId->List (DataW Hh)->List T->Prop
 | [],[],[]=>True
 | t::ts,d::ds,y::ys=>(y=mkT (aggB P t) y.cells/\∃n,TyD P n t d y.cells)/\Fits P ts ds ys
 | _,_,_=>False
theorem zpd{w:World}{r:Reach}{base:Nat}{t:TypeId}{v:Value}(h:Value.okWide P w r base t v){l:List TypeId}(hl:zbQ P l=true)(ht:t∈l)(ha:aggB P t=false):v.cells= #[v]:=by
 have:=qaB.1 hl t ht
 unfold aggB at ha
 unfold Value.okWide at h
 split at this <;> simp_all
 all_goals
  rename_i hu
  cases v <;> first|rfl|(simp[Cell.okWide,Cell.ok,hu]at h)
theorem zrX{l:List TypeId}(hl:zbQ P l=true){n:Nat}{t:TypeId}{d:DataW Hh}{ts:List T}(ht:t∈l)(h:TyD P n t d ts)(hlen:ts.length=P.cellsOf t):(mkT (aggB P t) ts).cells=ts:=by
 unfold mkT
 cases ha:aggB P t with
 | true=>rfl
 | false=>
   rw[zcl hl ht ha]at hlen
   match ts,hlen with
   | [c],_=>
     have:∀l,c≠ .ag l:=by
      intro l hc
      subst hc
      cases n with
      | zero=>exact h
      | succ n=>
        have hpe:=qaB.1 hl t ht
        unfold aggB at ha
        simp only[TyD]at h
        split at h <;> simp_all
     cases c with
     | ag l=>exact absurd rfl (this l)
     | _=>rfl
theorem zkz{w:World}{base:Nat}{l:List TypeId}(hl:zbQ P l=true)(hK:∀t∈l,∀fs:Array Field,P.underlying t=some (.struct fs)->P.cellsOf t=(fs.toList.map fun f=>P.cellsOf f.type).sum/\∀(j:Nat) f,fs.toList[j]?=some f->f.offset=((fs.toList.take j).map fun f=>P.cellsOf f.type).sum):
  ∀(ts:List TypeId) (vs:List Value) (ds:List (DataW Hh)) (ps:List MemPlace),(∀t∈ts,t∈l)->DataW.TrodAll enc P w 0 (fun _=>true) true ts vs ds ps->(∀(j:Nat) t v,ts[j]?=some t->vs[j]?=some v->Value.okWide P w .any base t v)->
  ∃ys:List T,Fits P ts ds ys/\ys.length=vs.length/\∀(i:Nat) y x,ys[i]?=some y->vs[i]?=some x->TRel (fun b _=>b<w.heap.size) w y x
 | [],vs,ds,ps,_,h,_=>by
   cases vs <;> cases ds <;> simp[DataW.TrodAll]at h
   exact⟨[],trivial,rfl,by simp⟩
 | t::ts,vs,ds,ps,ht,h,hok=>by
   obtain⟨v,vs',d,ds',p,q,rfl,rfl,rfl,h1,h2⟩:=ChangeShapes.trodAll_cons h
   have htl:=ht t qas
   obtain⟨fuel,h1⟩:=h1
   obtain⟨tr,g1,g2,g3,g4⟩:=zph hl hK fuel t _ d p htl h1
   obtain⟨ys,k1,k2,k3⟩:=zkz hl hK ts vs' ds' q (fun t h=>ht t (qar _ h)) h2 (fun j t v a b=>hok (j+1) t v (by simpa using a) (by simpa using b))
   have hv:=hok 0 t v rfl rfl
   have hrel:TRel (fun b _=>b<w.heap.size) w (mkT (aggB P t) tr) v/\(mkT (aggB P t) tr).cells=tr:=by
    cases ha:aggB P t with
    | true=>
      have:∃cs,v= .agg cs:=by
       unfold aggB at ha
       unfold Value.okWide at hv
       split at ha
       ·rename_i hu
        rw[hu]at hv
        obtain⟨cs,rfl,_⟩:=hv
        exact⟨cs,rfl⟩
       ·cases ha
      obtain⟨cs,rfl⟩:=this
      refine⟨?_,rfl⟩
      exact .ag tr cs (by simpa [Value.cells]using g1.symm) (fun i y hy=>g2 i y (by simpa [Value.cells]using hy)) (fun i c y hc hy=>g3 i c y hc (by simpa [Value.cells]using hy))
    | false=>
      have hc:=zpd hv hl htl ha
      have hc2:=zrX hl htl g4 (by rw[zcl hl htl ha,g1,hc];rfl)
      rw[ha]at hc2
      refine⟨?_,hc2⟩
      rw[hc]at g1 g3
      match tr,g1 with
      | [c],_=>exact g3 0 c v rfl rfl
   refine⟨mkT (aggB P t) tr::ys,⟨⟨by rw[hrel.2],fuel,by rw[hrel.2];exact g4⟩,k1⟩,by simp[k2],fun i y x hy hx=>?_⟩
   cases i with
   | zero=>simp at hy hx;subst hy;subst hx;exact hrel.1
   | succ i=>exact k3 i y x (by simpa using hy) (by simpa using hx)
theorem zmc{f:FuncId}{w:World}{ys:List T}{args:Array Value}(hS:Sound P f (ys.map .t) [] fun r H'=>r= .ret (.b true)/\H'=[])(hl:ys.length=args.size)(hr:∀(i:Nat) y x,ys[i]?=some y->args[i]?=some x->TRel (fun b _=>b<w.heap.size) w y x)
  (hg:Glob (fun b _=>b<w.heap.size) w):
  Calls P f args w fun e w'=>e= .returned (.bool true)/\RowKit.Below w.heap.size w w':=by
 have hm:HRel ⟨fun b _=>b<w.heap.size,[],[],w⟩:=⟨rfl,by simp,by simp,fun b o _ ⟨i,p,k,h,_⟩=>by simp at h,fun b o h=>h,by simp,hg⟩
 refine Calls.mono (hS.2 ⟨fun b _=>b<w.heap.size,[],[],w⟩ args rfl hm ⟨by simp[hl],fun i s x hs hx=>?_⟩) ?_
 ·rw[qau]at hs
  cases hy:ys[i]? with
  | none=>rw[hy]at hs;cases hs
  | some y=>rw[hy]at hs;cases hs;exact .t _ _ (hr i y x hy hx)
 ·rintro e w' ⟨m',r,rfl,s,hm',hrr,rfl,hH⟩
  cases e with
  | returned x=>
    refine⟨by rw[SRel.v_eq hrr],s.os,s.tape,s.output,s.size,fun b hb=>s.block b hb fun o ⟨i,p,k,h,_⟩=>by simp at h⟩
  | _=>simp[zbO]at hrr
section law
open RowKit WideShapes ChangeShapes
theorem zpj{f:Func}{s:ChangeSpec}{apart fresh handsOn again:Bool}{W W':World}{args:Array Value}{v:Value}{ds gs:List (DataW Hh)}{before pa pv:List MemPlace}
  (hW:DataW.Whole enc P f.params.toList s.vars apart W args.toList ds gs before)
  (hres:∀(b:Nat) (sp:Nat->Bool) (hd:Bool),DataW.TrodAll enc P W' b sp hd f.resultTypes.toList (v.resultList f.resultTypes.size) (s.fn Hh (ds++gs)).results [])
  (hargs:∀sp:Nat->Bool,(∀p∈before,sp p.block=true)->DataW.TrodAll enc P W' 0 sp true f.params.toList args.toList (s.fn Hh (ds++gs)).args pa)
  (hvars:∀sp:Nat->Bool,(∀p∈before,sp p.block=true)->DataW.TrodVars enc P W' sp s.vars (s.fn Hh (ds++gs)).vars pv)
  (hps:before=pa++pv)(hb:Below W.heap.size W W')
  (hok:∀(j:Nat) (t:TypeId) (r:Value),f.resultTypes[j]?=some t->(v.resultList f.resultTypes.size)[j]?=some r->Value.okWide P W' .any 0 t r):
  s.post enc P f apart fresh handsOn again W args v W':=by
 have hlt:∀p∈before,p.block<W.heap.size:=fun p hp=>hW.lt p hp
 have hold:∀p∈before,(fun b=>decide (b<W.heap.size)) p.block=true:=fun p hp=>by simpa using hlt p hp
 refine⟨ds,gs,before,[],pa,pv,hW,hres _ _ _,hargs _ hold,hvars _ hold,World.keptBut_mono (fun p hp=>⟨hp,?_⟩) (hb.frame (·∈before)),fun _=>?_⟩
 ·rw[hps,qaF]at hp
  exact Or.inr hp
 ·obtain⟨_,_,_,_,_,hz,hn⟩:=hW
  refine⟨hok,_,_,([]++pa)++pv,⟨[]++pa,pv,trodAll_append (hargs _ (fun _ _=>rfl)) (hres _ _ _),hvars _ (fun _ _=>rfl),rfl,?_,?_⟩,?_⟩
  ·intro b off hp
   have hin:MemPlace.cell b off∈before:=by rw[hps];simpa using hp
   rw[hb.frozen (hlt _ hin)]
   exact hz b off hin
  ·intro ha
   have:=hn ha
   rw[hps]at this
   simpa using this
  ·intro p hp _
   rw[hps]
   simpa using hp
theorem zji{l:List TypeId}(hl:zbQ P l=true)(hlaid:laidOutB P=true)(hmaps:mapsRowed P=true)(hrows:∀t∈l,t<P.types.size):Kids P (·∈l):=by
 have K:=kids_rows hlaid hmaps
 have hp:∀t∈l,_:=qaB.1 hl
 refine⟨fun{t e} ht hu=>?_,fun{t e} ht hu=>?_,fun{t e n} ht hu=>?_,fun{t fs} ht hu=>?_,fun{t k e} ht hu=>?_⟩
 ·have:=hp t ht;simp[hu]at this
 ·have:=hp t ht
  simp only[hu,qaz,qbU]at this
  exact this.1.2
 ·have:=hp t ht;simp[hu]at this
 ·obtain⟨_,k2,k3⟩:=K.struct (hrows t ht) hu
  refine⟨fun f hf=>?_,k2,k3⟩
  have:=hp t ht
  simp only[hu,qaB]at this
  simpa using this f hf
 ·have:=hp t ht;simp[hu]at this
theorem zik{l:List TypeId}(hl:zbQ P l=true)(hlaid:laidOutB P=true)(hmaps:mapsRowed P=true)(hrows:∀t∈l,t<P.types.size){W W':World}(hb:Below W.heap.size W W'){sp:Nat->Bool}:
  ∀(ts:List TypeId) (vs:List Value) (ds:List (DataW Hh)) (ps:List MemPlace),(∀t∈ts,t∈l)->(∀p∈ps,p.block<W.heap.size)->(∀p∈ps,sp p.block=true)->DataW.TrodAll enc P W 0 (fun _=>true) true ts vs ds ps->DataW.TrodAll enc P W' 0 sp true ts vs ds ps
 | [],vs,ds,ps,_,_,_,h=>by
   cases vs <;> cases ds <;> simp[DataW.TrodAll]at h⊢
   exact h
 | t::ts,vs,ds,ps,ht,hlt,hsp,h=>by
   obtain⟨v,vs',d,ds',p,q,rfl,rfl,rfl,⟨fuel,h1⟩,h2⟩:=trodAll_cons h
   refine trodAll_cons_mk ⟨fuel,?_⟩ (zik hl hlaid hmaps hrows hb ts vs' ds' q (fun t h=>ht t (qar _ h)) (fun p hp=>hlt p (qbV _ hp)) (fun p hp=>hsp p (qbV _ hp)) h2)
   refine DataW.trod_stays (T:=(·∈l)) (zji hl hlaid hmaps hrows) (fun{t e} ht hu=>?_) (fun h=>by cases h) (ht t qas) h1 (fun x hx=>hb.same (hlt x (qby _ hx))) (fun x hx=>hsp x (qby _ hx))
   have:=qaB.1 hl t ht
   simp only[hu,qaz]at this
   simpa [qbo]using this.2
theorem zli{f:FuncId}{fn:Func}{s:ChangeSpec}{bt:TypeId}{l:List TypeId}{k:List (DataW Hh)->Prop}(hvars:s.vars=[])(hres:fn.resultTypes= #[bt])(hbt:P.underlying bt=some .bool)
  (hl:zbQ P l=true)(hlaid:laidOutB P=true)(hmaps:mapsRowed P=true)(hrows:l.all (fun t=>Nat.blt t P.types.size)=true)(hin:fn.params.toList.all (fun t=>l.contains t)=true)
  (hspec:∀ds:List (DataW Hh),ds.length=fn.params.size->(s.fn Hh ds).results=[.lit (.bool true)]/\(s.fn Hh ds).args=ds/\(s.fn Hh ds).vars=[])
  (hS:∀(ds:List (DataW Hh)) ys,Fits P fn.params.toList ds ys->k ds->Sound P f (ys.map .t) [] fun r H'=>r= .ret (.b true)/\H'=[])
  (W:World)(base:Nat)(args:Array Value)(ds gs:List (DataW Hh))(before:List MemPlace)(hval:∀(j:Nat) t v,fn.params[j]?=some t->args[j]?=some v->Value.okWide P W .any base t v)
  (hW:DataW.Whole enc P fn.params.toList s.vars false W args.toList ds gs before)(hk:k (ds++gs))(hG:Glob (fun b _=>b<W.heap.size) W:=by intro b cs h;exact absurd h (gtab_none b cs)):
  Calls P f args W fun e W'=>∃v,e= .returned v/\s.post enc P fn false true false false W args v W':=by
 have hW':=hW
 obtain⟨p,q,hA,hV,rfl,hfz,hnd⟩:=hW
 rw[hvars]at hV
 obtain⟨rfl,rfl⟩:=trodVars_none hV
 simp only[qaQ]at hk hW'
 have hrows':∀t∈l,t<P.types.size:=fun t ht=>by have:=qaB.1 hrows t ht;simpa [qbo]using this
 have hin':∀t∈fn.params.toList,t∈l:=fun t ht=>by have:=qaB.1 hin t ht;simpa using this
 have K:=zji hl hlaid hmaps hrows'
 obtain⟨ys,y1,y2,y3⟩:=zkz (enc:=enc) hl (fun t ht fs hu=>(K.struct ht hu).2) fn.params.toList args.toList ds p hin' hA (fun j t v a b=>hval j t v (by simpa using a) (by simpa using b))
 have hlen:ds.length=fn.params.size:=by
  have:∀(ts:List TypeId) (ds:List (DataW Hh)) (ys:List T),Fits P ts ds ys->ds.length=ts.length:=by
   intro ts
   induction ts with
   | nil=>intro ds ys h;cases ds <;> cases ys <;> simp_all [Fits]
   | cons t ts ih=>intro ds ys h;cases ds <;> cases ys <;> simp[Fits]at h⊢;exact ih _ _ h.2
  simpa using this _ _ _ y1
 obtain⟨s1,s2,s3⟩:=hspec ds hlen
 refine Calls.mono (zmc (hS ds ys y1 hk) (by simpa using y2) (fun i y x hy hx=>y3 i y x hy (by simpa using hx)) hG) ?_
 rintro e W' ⟨rfl,hb⟩
 refine⟨_,rfl,zpj (pa:=p) (pv:=[]) hW' (fun b sp hd=>?_) (fun sp hsp=>?_) (fun sp hsp=>?_) (by simp) hb (ok_one hres rfl (okWide_bool_mk hbt _))⟩
 ·rw[qaQ,s1,hres]
  exact trodAll_cons_mk (shut_bool hbt _) trodAll_mk0
 ·rw[qaQ,s2]
  exact zik hl hlaid hmaps hrows' hb _ _ _ _ hin' (fun x hx=>hW'.lt x (by simpa using hx)) (fun x hx=>hsp x (by simpa using hx)) hA
 ·rw[qaQ,s3,hvars]
  rfl
end law
end Go.TL
