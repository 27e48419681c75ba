import Derived.Test.YtdicfgideclbdaaGreatDoorPk31
import Derived.Test.YtdicfgideclbdaaGreatDoorPk32
import Derived.Test.YtdicfgideclbdaaGreatDoorPk40
set_option maxHeartbeats 64000000
set_option linter.all false
namespace Go.Proofs.YtdicfgideclbdaaGreatDoor
open Go Go.TL
attribute [local irreducible] TR TO Then zal RetK Sound zab Kf GG zaR
variable {es:List En}{cargs:List SV}{x e:Ex}{d:Decl}{q:Equ}{l:List Decl}{level:Nat}{word:Str}{p:Prog}
abbrev glH (a:Bool)(b:Blk)(es:List En)(l:Str):Heap:=[b,symB,.cells [.t (ensT es),.mp 1,bif a then .tref lnT 4 2 2 else .t (.v (.pointer none)),.rw 3 l.length],.row 5 (zce l)]
theorem zuC(a:Bool)(b:Blk)(es:List En)(l:Str):Hands (glH a b es l) [1,2,3] (lnH a es l):=by
 cases a
 all_goals
  refine⟨oB,oC,rfl,fun j i c hj hc=>?_,fun j c hc=>?_⟩
  ·rcases j with _|_|_|j
   ·simp[lnH]at hj hc;subst hj hc;rfl
   ·simp[lnH]at hj hc;subst hj hc;rfl
   ·simp[lnH]at hj hc;subst hj hc;rfl
   ·simp at hj
  ·rcases j with _|_|_|j
   ·simp[lnH]at hc;subst hc;rfl
   ·simp[lnH]at hc;subst hc;rfl
   ·simp[lnH]at hc;subst hc;rfl
   ·simp[lnH]at hc
section rules
variable {n:Nat}{env:Env}{H:Heap}{K:TK}{all:Array Oper}{rest:List Oper}{d:Nat}{ty:TypeId}{pos:String}{aft:Array Edge}
theorem TO.lnC{a:Bool}{b:Blk}{t t':Str}{fid:FuncId}{vs:List SV}{f:Operand}{args:Array Operand}{ts:Array TypeId}(hs:Sound Tryz.prog fid (.tref lnT 4 1 0::cargs) (lnH a es t) (fun r H'=>r= .ret (.tup [])/\H'=ln1 es t'))(hd:Nat.ble (d+1) n=true)(hf:env.val f=some (.fn fid []))(ha:env.vals args.toList=some vs)
  (hl:Les (vs++[]) (rens (names [1,2,3] 4) (.tref lnT 4 1 0::cargs)))(hu:unders 3 (.tref lnT 4 1 0::cargs)=true)
  (k:TO false Tryz.prog n all rest ((d,.tup [])::env) (glH true b es t') K):
  TO false Tryz.prog n all (⟨some d,.call { callee:=.value f,args:=args,argTypes:=ts },ty,pos,aft,none⟩::rest) env (glH a b es t) K:=
 TO.zdD [1,2,3] (v':=.tup []) (H':=glH true b es t') hs hd hf ha hl (by cases a <;> exact hu) (zuC a b es t) rfl (by cases a <;> rfl) k
theorem TO.boxT{t:TypeId}{x:Operand}{v:SV}{cs:List SV}(hd:Nat.ble (d+1) n=true)(hx:env.val x=some v)(hv:v.solid=true)(hc:v.cells=cs)
  (k:TO false Tryz.prog n all rest ((d,.tref t cs.length H.length 0)::env) (H++[.cells cs]) K):TO false Tryz.prog n all (⟨some d,.box t x,ty,pos,aft,none⟩::rest) env H K:=
 TO.eff hd (fun m ac h1 h2 h3=>by
  obtain⟨g1,g0,g2⟩:=(h3.val hx).cells hv;rw[hc]at g1 g2;obtain⟨s,hm'⟩:=zc0 h2 cs (ac.eval x).cells t oA g0 g2;have hsz:(ac.eval x).cells.size=cs.length:=oA
  refine⟨.pointer (some ⟨m.w.heap.size,0,none⟩),_,?_,s,hm',by rw[h1],?_⟩
  ·simp[execOp,Instr.box,newVar,newRow]
  ·rw[<-h1]
   exact SRel.tref (m:=⟨m.A,m.β++[⟨m.w.heap.size,0,(ac.eval x).cells.size⟩],m.H++[.cells cs],m.w.alloc (.cells (ac.eval x).cells t)⟩) t cs.length m.H.length 0 ⟨m.w.heap.size,0,(ac.eval x).cells.size⟩
    (by simp[h2.len]) (by intro q;simp[tlOf]) rfl (by rw[<-hsz];exact World.shape?_alloc_at _ _ _ rfl)) k
end rules
theorem zfi (p:Prog) (hw:(T.ag (za3 p)).w≤1000000000) (h0:(zaY p).2=0->ShPr p):Pure Tryz.prog 11 [.t (.ag (za3 p))] (.tup [.s (zgF p).1,.i (zgF p).2]):=by
 have hsh:=zeO p hw;unfold zgF;by_cases hz:(zaY p).2=0
 ·rw[oG hz];rw[hz]at hsh;have hp:=h0 hz;have hbl:=hp.len;have hbl0:=hp.len;unfold ze9 at hbl;rw[qab]at hbl;have hpe:ze9 p=zak zeq p.enums++zak (zbx p.enums) p.nodes:=rfl;rw[hpe]at hbl0;rw[hpe];clear hpe;have hfe:=hp.fewE;have hfn:=hp.fewN;have hm1:(p.enums.map enT).length=p.enums.length:=qac _;have hm2:(p.nodes.map nodT).length=p.nodes.length:=qac _;unfold za3 at*;generalize (zaY p).1=x1 at*;refine so Tryz.func11 ?_;repeat' (first|refine wkt ?_|refine wv hsh ?_|(apply TO.newW;(iterate 3 exact rfl))|(apply TO.boxT (t:=lnT);(iterate 4 exact rfl))|exact wkc|refine wk2 ?_ ?_|intro hc)
  clear hsh;apply TR.zht 5 2 3
  ·exact rfl
  ·exact rfl
  ·exact rfl
  repeat' (first|refine wkt ?_|exact wkc|refine wk2 ?_ ?_|intro hc)
  refine TR.zay p.enums.length (fun _=>True) (fun j=>[(1,.cp [.sl 2 (p.enums.map enT),zbK p.nodes] 0),(6,.tref lnT 4 2 0),(25,.t (.sl 2 (p.enums.map enT))),(26,.i p.enums.length),(27,.i j)]) (fun j=>glH (!Nat.beq j 0) (.cells [.t (ensT p.enums),.mp 1]) p.enums (zak zeq (p.enums.take j))) trivial (fun j hlt _=>?_) (fun _=>?_) ⟨rfl,rfl,rfl,by rw[<-hm1];rfl,rfl,trivial⟩ rfl
  ·have hx:(p.enums.map enT)[j]?=some (.ag [.s p.enums[j].name,.sl 1 (p.enums[j].tags.map T.s)]):=zaL enT hlt;have htk:=zbe hlt;have hfl:=zcb zeq p.enums (j+1);rw[htk,zaQ,qab]at hfl;have hj1:zak zeq (p.enums.take (j+1))=zak zeq (p.enums.take j)++zeq p.enums[j]:=by rw[htk,zaQ]
   have hu:=hp.enums _ (qai hlt);have hnl:=hu.name;have hjl:=hu.len;have hjn:=zcv p.enums[j].tags [32,124,32] (qax hu.few oB) (qax hjl oB);have hee:zeq p.enums[j]=za1 0 ([116,121,112,101,32]++p.enums[j].name++[32,61,32]++Go.Lib.join p.enums[j].tags [32,124,32]++[59]):=rfl;have hadd:=zcr (!Nat.beq j 0) p.enums (zak zeq (p.enums.take j)) ([116,121,112,101,32]++p.enums[j].name++[32,61,32]++Go.Lib.join p.enums[j].tags [32,124,32]++[59]) 0 oB (by rw[<-hee];omega);rw[<-hee]at hadd;clear hee hu;have hms:(p.enums[j].tags.map T.s).length=p.enums[j].tags.length:=qac _;generalize zeq p.enums[j]=ln at*;generalize zak zeq (p.enums.take j)=acc at*;generalize Go.Lib.join p.enums[j].tags [32,124,32]=jn at*;generalize p.enums[j]=u at*;have hbj:(!Nat.beq (j+1) 0)=true:=rfl;generalize (!Nat.beq j 0)=a at*;repeat' (first|refine wkt ?_|refine zqg ?_|exact wkc|refine wk2 ?_ ?_|intro hc)
   apply TR.zfw (envF:=_) (HF:=glH true (.cells [.t (ensT p.enums),.mp 1]) p.enums (acc++ln)) [(_,false),(_,false),(_,false),(_,false),(_,false),(_,false),(_,false),(_,false),(_,false),(_,false),(_,true)] [glH a (.cells [.t (ensT p.enums),.mp 1]) p.enums acc,glH true (.cells [.t (ensT p.enums),.mp 1]) p.enums (acc++ln)] hmix
   case hB=>(dsimp only[List.map];decide +kernel)
   case h0=>exact rfl
   case hF=>exact rfl
   case hp=>
    repeat' (first|(refine qav (fun H hH env=>?_) ?_;rcases znD hH with rfl|rfl)|refine qav (fun env=>?_) ?_|refine wma ?_|refine wmv hjn ?_|(apply TO.lnC hadd;(iterate 3 exact rfl);exact Les.refl _;exact rfl)|(apply TO.cat;(iterate 3 exact rfl);exact zqe)|exact trivial|exact qav rfl rfl|refine wmk ?_|fail)
    done
   case hE=>exact rfl
   case hK=>
    refine ya ?_;exact zab.zaD hlt trivial (by(try dsimp only);exact⟨rfl,rfl,rfl,rfl,rfl,trivial⟩) (by(try dsimp only);rw[hj1,hbj])
  rw[qap];repeat' (first|refine wkt ?_|refine zab.exit ?_|exact wkc|refine wk2 ?_ ?_|intro hc)
  generalize zak zeq p.enums=t0 at*;generalize (!Nat.beq p.enums.length 0)=a0 at*;refine TR.zay p.nodes.length (fun _=>True) (fun j=>[(1,.cp [.sl 2 (p.enums.map enT),zbK p.nodes] 0),(6,.tref lnT 4 2 0),(44,.t (zbK p.nodes)),(45,.i p.nodes.length),(46,.i j)]) (fun j=>glH (a0 || !Nat.beq j 0) (.cells [.t (ensT p.enums),.mp 1]) p.enums (t0++zak (zbx p.enums) (p.nodes.take j))) trivial (fun j hlt _=>?_) (fun _=>?_) ⟨rfl,rfl,rfl,by rw[<-hm2];rfl,rfl,trivial⟩ (by simp[zak])
  ·have hx:=zor hlt;have htk:=zbe hlt;have hfl:=zcb (zbx p.enums) p.nodes (j+1);rw[htk,zaQ,qab]at hfl;have hj1:t0++zak (zbx p.enums) (p.nodes.take (j+1))=t0++zak (zbx p.enums) (p.nodes.take j)++zbx p.enums p.nodes[j]:=by rw[htk,zaQ,qay]
   have hs:=znK hp.es hp.ty (a0 || !Nat.beq j 0) (t0++zak (zbx p.enums) (p.nodes.take j)) _ (hp.nodes _ (qai hlt)) (by
    rw[qab];omega)
   have hbj:(a0 || !Nat.beq (j+1) 0)=true:=by cases a0 <;> rfl
   generalize (a0 || !Nat.beq j 0)=a at*;generalize t0++zak (zbx p.enums) (p.nodes.take j)=acc at*;generalize zbx p.enums p.nodes[j]=ln at*;generalize p.nodes[j]=n at*;rw[show nodT n= .ag (nodC n) from rfl]at hs;unfold nodC at hx hs;repeat' (first|refine wkt ?_|refine zqg ?_|(apply TO.lnC hs;(iterate 3 exact rfl);exact Les.refl _;exact rfl)|exact wkc|refine wk2 ?_ ?_|refine wk ?_|intro hc)
   exact zab.zaD hlt trivial (by(try dsimp only);exact⟨rfl,rfl,rfl,rfl,rfl,trivial⟩) (by(try dsimp only);rw[hj1,hbj])
  ·rw[qap];have hS:=zua (glH (a0 || !Nat.beq p.nodes.length 0) (.cells [.t (ensT p.enums),.mp 1]) p.enums (t0++zak (zbx p.enums) p.nodes)) 2 3 2 _ (t0++zak (zbx p.enums) p.nodes) hbl0 rfl rfl rfl;generalize t0++zak (zbx p.enums) p.nodes=tx at*;repeat' (first|(intro v H' h;cases h;done)|(intro v H' h;cases h)|refine wkt ?_|refine zab.exit ?_|exact wkc|refine wk2 ?_ ?_|(apply TO.zfm hS;(iterate 3 exact rfl);exact⟨Le.refl _,trivial⟩)|refine wk ?_|intro hc)
   all_goals exact wkr
 ·rw[oH hz];generalize zaY p=x at*;unfold za3 at*;refine so Tryz.func11 ?_;refine yb hsh ?_;exact wkr
theorem zlB(h:zbg es e=0):wEx e≤400/\∀x∈flat e,oneX x=0:=by
 unfold zbg at h;split at h
 ·rename_i hc;unfold zev at hc;split at hc
  ·cases hc
  ·rename_i hd;exact⟨oA,zac hc⟩
 ·rename_i hc;exact oI h hc
theorem zuT(h:oneX x=0):x.name=[]\/ident x.name=true\/(zes x.name).2=0:=by
 unfold oneX oneI at h;split at h
 ·cases h
 split at h
 ·cases h
 split at h
 ·split at h
  ·exact .inr (.inl oE)
  ·cases h
 split at h
 ·rename_i hw;exact .inr (.inr hw.2)
 split at h
 ·cases h
 ·rename_i hn;exact .inl (qaA fun hh=>hn (.inl hh))
theorem zsK(h:oneX x=0):x.name.length≤66:=by
 rcases zuT h with h|h|h
 ·rw[h];exact qaN _
 ·exact qax (zaO h).1 oB
 ·unfold zes at h;split at h
  ·cases h
  ·omega
theorem zfo(h:zbg es e=0):ShOk e/\wEx e≤400:=zth h fun x hx=>qax (zsK ((zlB h).2 x hx)) oB
theorem zpz(h:OkD es d):ShD d:=⟨qax (zaO h.name).1 oB,qax h.few oB,fun o ho=>qax (zaO (h.ck o ho)).1 oB⟩
theorem zwO(h:OkQ es q):ShQ q:=⟨(zfo h.right).1,(zfo h.right).2,qax h.few oB,fun o ho=>qax (zaO (h.left o ho)).1 oB⟩
theorem ztj{n:Nat}{t:Tran}(h:OkT es n t):ShTr n t:=⟨(zfo h.cond).1,(zfo h.cond).2,h.tgt⟩
theorem ztg{es:List En}:∀(m:Nat) (a:Auto),OkA es m a->ShAu m a
 | 0,_,h=>h
 | m+1,a,h=>⟨qax h.1 oB,fun s hs=>by
   obtain⟨f1,f2,f3,f4,f5,f6,f7⟩:=h.2 s hs;exact⟨qax (zaO f1).1 oB,fun d hd=>zpz (f3 d hd),oA,fun d hd=>zwO (f4 d hd),oA,fun d hd=>ztg m d (f5 d hd),oA,fun d hd=>ztj (f6 d hd),oA,fun d hd=>ztj (f7 d hd),oA⟩⟩
theorem zyy{n:Nod}(h:OkN es n):ShNo n:=by
 obtain⟨f1,f2,f3,f4,f5,f6,f7,f8,f9⟩:=h;exact⟨qax (zaO f1).1 oB,fun d hd=>zpz (f3 d hd),oA,fun d hd=>zpz (f4 d hd),oA,fun d hd=>zpz (f5 d hd),oA,fun d hd=>zwO (f6 d hd),oA,fun d hd=>ztg 3 d (f7 d hd),oA,fun d hd=>zfo (f8 d hd),oA,fun d hd=>zfo (f9 d hd),oA⟩
structure OkE (es:List En):Prop where
 few:es.length≤24
 all:∀u∈es,OkU u
theorem OkE.sh(h:OkE es):ShE es:=⟨qax h.few oB,fun u hu=>qax (h.all u hu).few oB,fun u hu t ht=>qax (zaO ((h.all u hu).tags t ht)).1 oB⟩
theorem zrR(h:OkE es)(t:Int):(zaM es t).1.name=[]\/ident (zaM es t).1.name=true:=by
 unfold zaM;split
 ·rename_i hc;cases hq:es[(t-3).toNat]? with
  | none=>exact .inl (by simp_all)
  | some u=>exact .inr (by simpa [hq]using (h.all u (qau hq)).name)
 ·exact .inl rfl
theorem zpb(h:OkE es)(t:Int):(zdj es t).1.length≤40:=by
 unfold zdj;split
 ·decide
 split
 ·decide
 ·rcases zrR h t with hh|hh
  ·rw[hh];exact qaN _
  ·exact(zaO hh).1
theorem ztR(h:OkE es)(t v:I64):(valS es t.1 v.1).length≤66+30:=by
 unfold valS zi4;split
 ·exact qaN _
 split
 ·exact qaN _
 split
 ·split
  ·exact leB
  ·exact leB
 split
 ·have:=zo0 v
  dsimp only;omega
 ·dsimp only;rename_i h1 h2 h3 h4;cases hx:(zaM es t.1).1.tags[v.1.toNat]? with
  | none=>exact qaN _
  | some g=>
    have hg:=qau hx;obtain⟨g1,g2,g3,g4⟩:=zhX (by simpa using h1) h3 h4;rw[g4]at hg
    have:=(zaO ((h.all _ (qai g3)).tags g hg)).1
    simp only[qbm];omega
theorem zcO{α:Type}{g:α->Str}{f:α->T}{sz c:Nat}:∀ {l:List α},(∀x∈l,(g x).length≤c*(f x).w)->(zak g l).length≤c*((l.map f).map T.w).sum
 | [],_=>qaN _
 | x::l,h=>by
   have h1:=h x (qah ..);have h2:=zcO (sz:=sz) (f:=f) (g:=g) (c:=c) (l:=l) fun y hy=>h y (qaj _ hy)
   have:zak g (x::l)=g x++zak g l:=by simp[zak]
   rw[this,qab,qaf,qaf,qaG,Nat.mul_add];omega
theorem zo2{α:Type}{g:α->Str}{f:α->T}{c:Nat}(sep:Str){l:List α}(h:∀x∈l,(g x).length+sep.length≤c*(f x).w):(Go.Lib.join (l.map g) sep).length≤c*((l.map f).map T.w).sum:=by
 refine qax (zkm sep _) ?_
 induction l with
 | nil=>exact qaN _
 | cons x l ih=>
   have h1:=h x (qah ..);have h2:=ih fun y hy=>h y (qaj _ hy)
   simp only[qaf,qaG,Nat.mul_add]at h2⊢;omega
theorem zc7(level:Nat)(s:Str):(za1 level s).length=2*level+s.length+1:=by
 have:=Go.Lib.repeatL_length [32,32] level
 simp only[za1,qab,qae,qal]at this⊢;omega
theorem zyw(h:OkE es)(he:zbg es e=0):(shF es 400 e).length+106≤364*(exT e).w:=by
 have h1:=zkD (N:=66) (ztR h) 400 e (zfo he).1 fun x hx=>zsK ((zlB he).2 x hx)
 have h2:=zgh e
 have:wEx e*(4*66+100)=364*wEx e:=oA
 omega
theorem zxv(h:OkE es)(hd:OkD es d):(zb9 es d).length+2≤400*(zag d).w:=by
 have h1:=(zaO hd.name).1;have h2:=zpb h d.ty.1;have h3:=zmO (T.n d.ty)
 have h4:(zfI es d.clock).length≤400*((d.clock.map onT).map T.w).sum:=zo2 [32] fun o ho=>by
  have a1:=(zaO (hd.ck o ho)).1;have a2:=ztR h o.t o.tag;have a3:=zmO (onT o);exact zwel
 rw[show zag d= .ag [.s d.name,T.n d.ty,.sl 3 (d.clock.map onT)] from rfl,w_ag];simp only[qaf,qaD,qaG,qaX,w_sl];exact zwbg
theorem zj0(h:OkE es)(hd:∀d∈l,OkD es d):(zca es l).length≤400*((l.map zag).map T.w).sum:=zo2 [59,32] fun d hh=>zxv h (hd d hh)
theorem zlY(h:OkE es)(hv:level≤7)(hd:∀d∈l,OkD es d):(zbY es level l).length≤400*(T.sl 3 (l.map zag)).w:=by
 have h1:=zj0 h hd;rw[w_sl];unfold zbY;split
 ·rw[zc7];exact zwew
 ·exact qaN _
theorem zvU(h:OkE es)(hv:level≤7)(hq:OkQ es q):(zcm es level q).length≤400*(equT q).w:=by
 have h1:=zyw h hq.right
 have h2:(Go.Lib.join q.left [44,32]).length≤400*((q.left.map T.s).map T.w).sum:=by
  have:=zo2 (g:=fun s=>s) (f:=T.s) (c:=400) [44,32] (l:=q.left) fun x hx=>by
   have:=(zaO (hq.left x hx)).1
   exact zweq
  simpa using this
 rw[zan,w_ag]at h1;rw[show equT q= .ag (.sl 1 (q.left.map T.s)::exC q.right) from rfl,w_ag,qaf,qaG,w_sl];unfold zcm lhsS;rw[zc7];split
 ·exact zwew
 ·exact zwew
theorem ztK(h:OkE es)(hv:level≤7)(hw:word.length≤6){sts:List Sta}(hs:∀s∈sts,ident s.name=true){q:Tran}(hq:OkT es sts.length q):(zcY es level word sts q).length≤400*(zaw q).w:=by
 have h1:=zyw h hq.cond;have h2:(kwS q.resume).length≤10:=by unfold kwS;split <;> decide
 have h3:(((sts[q.to.1.toNat]?).map Sta.name).getD []).length≤40:=by
  cases hx:sts[q.to.1.toNat]? with
  | none=>exact qaN _
  | some s=>exact(zaO (hs s (qau hx))).1
 rw[zan,w_ag]at h1;simp only[exC,qaf,qaD,qaG,qaX]at h1;have h4:=zmO (T.b q.resume);rw[show zaw q= .ag [T.n q.cond.kind,T.n q.cond.op,T.n q.cond.t,T.n q.cond.v,.s q.cond.name,.sl 6 (q.cond.args.map exT),T.n q.to,.b q.resume] from rfl,w_ag];simp only[qaf,qaD,qaG,qaX];unfold zcY;exact zwdx
theorem zoD(h:OkE es)(hw:word.length≤6)(he:zbg es e=0):(zaH es word e).length≤400*(exT e).w:=by
 have h1:=zyw h he;unfold zaH;exact zwdx
theorem zrh{es:List En}(h:OkE es):∀(m level:Nat) (a:Auto),level+2*m≤7->OkA es m a->(zaU es m level a).length≤400*(zai a).w
 | 0,_,_,_,ha=>ha.elim
 | m+1,level,a,hv,ha=>by
   have hst:=ha.2
   have h1:(zak (staS es (zaU es m) level a.states) a.states).length≤400*((a.states.map staT).map T.w).sum:=zcO (sz:=6) fun s hs=>by
    obtain⟨f1,f2,f3,f4,f5,f6,f7⟩:=hst s hs;have hnm:∀s∈a.states,ident s.name=true:=fun s hs=>(hst s hs).name
    have a1:=(zaO f1).1;have a2:=zlY h (level:=level+2) oA f3;have a3:(zak (zcm es (level+2)) s.eqs).length≤400*((s.eqs.map equT).map T.w).sum:=zcO (sz:=7) fun q hq=>zvU h oA (f4 q hq)
    have a4:(zak (zaU es m (level+2)) s.autos).length≤400*((s.autos.map zai).map T.w).sum:=zcO (sz:=1) fun q hq=>zrh h m (level+2) q oA (f5 q hq)
    have a5:(zak (zcY es (level+2) [117,110,108,101,115,115] a.states) s.unl).length≤400*((s.unl.map zaw).map T.w).sum:=zcO (sz:=8) fun q hq=>ztK h oA oB hnm (f6 q hq)
    have a6:(zak (zcY es (level+2) [117,110,116,105,108] a.states) s.unt).length≤400*((s.unt.map zaw).map T.w).sum:=zcO (sz:=8) fun q hq=>ztK h oA oB hnm (f7 q hq)
    have a7:=zmO (T.s s.name);rw[zcD,w_ag];simp only[qaf,qaD,qaG,qaX,w_sl]at a2⊢;simp only[staS,qab,zc7,qae,qal];omega
   rw[zcc,w_ag];simp only[qaf,qaD,qaG,qaX,w_sl];simp only[zaU,qab,zc7,qae,qal];omega
theorem zx6(h:OkE es){n:Nod}(hn:OkN es n):(zbx es n).length≤400*(nodT n).w:=by
 obtain⟨f1,f2,f3,f4,f5,f6,f7,f8,f9⟩:=hn;have a1:=(zaO f1).1;have a2:=zj0 h f3;have a3:=zj0 h f4;have a4:=zlY h (level:=1) oB f5;have a5:(zak (zcm es 1) n.eqs).length≤400*((n.eqs.map equT).map T.w).sum:=zcO (sz:=7) fun q hq=>zvU h oB (f6 q hq)
 have a6:(zak (zaU es 3 1) n.autos).length≤400*((n.autos.map zai).map T.w).sum:=zcO (sz:=1) fun q hq=>zrh h 3 1 q oB (f7 q hq)
 have a7:(zak (zaH es [97,115,115,117,109,101]) n.assume).length≤400*((n.assume.map exT).map T.w).sum:=zcO (sz:=6) fun q hq=>zoD h oB (f8 q hq)
 have a8:(zak (zaH es [101,110,115,117,114,101]) n.ensure).length≤400*((n.ensure.map exT).map T.w).sum:=zcO (sz:=6) fun q hq=>zoD h oB (f9 q hq)
 have a9:=zmO (T.s n.name);rw[show nodT n= .ag [.s n.name,.sl 3 (n.ins.map zag),.sl 3 (n.outs.map zag),.sl 3 (n.locals.map zag),.sl 7 (n.eqs.map equT),.sl 1 (n.autos.map zai),.sl 6 (n.assume.map exT),.sl 6 (n.ensure.map exT)] from rfl,w_ag];simp only[qaf,qaD,qaG,qaX,w_sl]at a4⊢;simp only[zbx,zha,qab,zc7,qae,qal];omega
theorem zxy{u:En}(hu:OkU u):(zeq u).length≤400*(enT u).w:=by
 have a1:=(zaO hu.name).1
 have a2:(Go.Lib.join u.tags [32,124,32]).length≤400*((u.tags.map T.s).map T.w).sum:=by
  have:=zo2 (g:=fun s=>s) (f:=T.s) (c:=400) [32,124,32] (l:=u.tags) fun x hx=>by
   have:=(zaO (hu.tags x hx)).1
   exact zweq
  simpa using this
 rw[show enT u= .ag [.s u.name,.sl 1 (u.tags.map T.s)] from rfl,w_ag];simp only[qaf,qaD,qaG,qaX,w_sl];simp only[zeq,qab,zc7,qae,qal];omega
theorem zzR(h:OkP p):OkE p.enums:=⟨h.few.1,h.enums⟩
theorem zti(h:OkP p)(hw:(T.ag (za3 p)).w≤2200000):ShPr p:=by
 have hE:=zzR h;refine⟨hE.sh,fun t=>qax (zpb hE t) oB,fun u hu=>?_,qax h.few.1 oB,fun n hn=>zyy (h.nodes n hn),qax h.few.2 oB,?_⟩
 ·have hq:=h.enums u hu;exact⟨qax (zaO hq.name).1 oB,qax hq.few oB,fun t ht=>qax (zaO (hq.tags t ht)).1 oB⟩
 ·have a1:(zak zeq p.enums).length≤400*((p.enums.map enT).map T.w).sum:=zcO (sz:=2) fun u hu=>zxy (h.enums u hu)
  have a2:(zak (zbx p.enums) p.nodes).length≤400*((p.nodes.map nodT).map T.w).sum:=zcO (sz:=8) fun u hu=>zx6 hE (h.nodes u hu)
  rw[w_ag]at hw;simp only[za3,zbK,qaf,qaD,qaG,qaX,w_sl]at hw;rw[show ze9 p=zak zeq p.enums++zak (zbx p.enums) p.nodes from rfl,qab];omega
def zse(p:Prog):Bool:=decide (1500≤wgP 1500 p)
theorem zlO(p:Prog)(hw:(T.ag (za3 p)).w≤100000000):Pure Tryz.prog 5 [.t (.ag (za3 p))] (.b (zse p)):=by
 have hs:=ztW p hw 1500 oA (qag _);unfold zse;generalize wgP 1500 p=z at*;unfold za3 at*;by_cases h:1500≤z
 ·rw[decide_eq_true h];exact zwbm
 ·rw[decide_eq_false h];exact zwbm
mutual
def zno:Ex->List Ex
 | .mk k o t v n l=>.mk k o t v n l::zoV l
def zoV:List Ex->List Ex
 | []=>[]
 | a::l=>zno a++zoV l
end
mutual
def depQ:Ex->Int
 | .mk _ _ _ _ _ l=>zuq l 0+1
def zuq:List Ex->Int->Int
 | [],a=>a
 | x::l,a=>zuq l (max a (depQ x))
end
theorem zrp:∀(m:Nat) (e:Ex),wEx e≤m->flat e=zno e/\za0 e=depQ e
 | 0,e,h=>by have:=zcl e;omega
 | m+1,.mk k o t v n l,h=>by
   have ih:∀a∈l,flat a=zno a/\za0 a=depQ a:=fun a ha=>zrp m a (by have:=zcF (e:=.mk k o t v n l) (x:=a) ha;omega)
   have h1:∀l:List Ex,(∀a∈l,flat a=zno a)->flats l=zoV l:=by
    intro l
    induction l with
    | nil=>intro _;rfl
    | cons a l ih=>intro h;rw[zoV,<-ih fun b hb=>h b (by simp[hb]),<-h a oC];simp[flats]
   have h2:∀(l:List Ex) (x:Int),(∀a∈l,za0 a=depQ a)->(l.map za0).foldl max x=zuq l x:=by
    intro l
    induction l with
    | nil=>intro x _;rfl
    | cons a l ih=>intro x h;rw[zuq,qaf,qb1,ih _ fun b hb=>h b (by simp[hb]),h a oC]
   refine⟨?_,?_⟩
   ·rw[zbW,zno];exact oJ _ (h1 l fun a ha=>(ih a ha).1)
   ·rw[zgr,depQ];exact oJ (·+1) (h2 l 0 fun a ha=>(ih a ha).2)
theorem zoU(e:Ex):flat e=zno e:=(zrp _ e (qag _)).1
theorem zze(e:Ex):za0 e=depQ e:=(zrp _ e (qag _)).2
theorem zyG(e:Ex):wEx e=(zno e).length:=by rw[<-zoU,zka]
def aA:Ex:=.mk (i64 2) (i64 0) (i64 0) (i64 0) [97] []
def aNot:Ex:=.mk (i64 3) (i64 1) (i64 0) (i64 0) [] [aA]
def aN:Nod:=⟨[102],[⟨[97],i64 1,[]⟩],[⟨[98],i64 1,[]⟩],[],[⟨[[98]],aNot⟩],[],[],[]⟩
def aP:Prog:=⟨[],[aN]⟩
def aOne(v:Int)(h:-9223372036854775808≤v/\v≤9223372036854775807:=by decide):Ex:=.mk (i64 1) (i64 0) (i64 2) (i64 v h) [] []
def aMul:Ex:=.mk (i64 3) (i64 8) (i64 0) (i64 0) [] [aA,aOne (-2)]
def aAdd:Ex:=.mk (i64 3) (i64 6) (i64 0) (i64 0) [] [aOne 1,aMul]
def aCk:List OnC:=[⟨[97],i64 1,i64 1⟩,⟨[98],i64 2,i64 0⟩]
def tx1:Str:=[110,111,100,101,32,102,40,97,58,32,98,111,111,108,41,32,114,101,116,117,114,110,115,32,40,98,58,32,98,111,111,108,41,10,108,101,116,10,32,32,98,32,61,32,110,111,116,32,97,59,10,116,101,108,10]
def tx2:Str:=[49,32,43,32,40,97,32,42,32,40,45,50,41,41]
def tx3:Str:=[119,104,101,110,32,116,114,117,101,40,97,41,32,119,104,101,110,32,48,40,98,41]
theorem zxc:zaY aP=((0,0),0):=by
 delta zaY zco equE zn8 zbg zev
 simp only[zoU,zze,zyG];decide +kernel
theorem zyR:zgF aP=(tx1,0):=by
 unfold zgF;rw[zxc]
 have:ze9 aP=tx1:=by decide +kernel
 rw[this];rfl
theorem it1:Go.Lib.itoa 1=[49]:=by unfold Go.Lib.itoa;rw[oH oB,Go.Lib.decDigits];rfl
theorem it0:Go.Lib.itoa 0=[48]:=by unfold Go.Lib.itoa;rw[oH oB,Go.Lib.decDigits];rfl
theorem it2:Go.Lib.itoa (-2)=[45,50]:=by unfold Go.Lib.itoa;rw[oG oB,Go.Lib.decDigits];rfl
theorem zyQ:ztk [] aAdd=(tx2,0):=by
 have h:zbg [] aAdd=0:=by
  delta zbg zev
  simp only[zoU,zze,zyG];decide +kernel
 have h1:valS [] 2 1=[49]:=it1;have h2:valS [] 2 (-2)=[45,50]:=it2
 have:shF [] 400 aAdd=valS [] 2 1++[32]++[43]++[32]++([40]++([97]++[32]++[42]++[32]++([40]++valS [] 2 (-2)++[41]))++[41]):=rfl
 unfold ztk;rw[oG h,this,h1,h2];rfl
theorem zxb:zms [] aCk=(tx3,0):=by
 have h2:valS [] 2 0=[48]:=it0
 have:zfI [] aCk=tx3:=by
  show Go.Lib.join [[119,104,101,110,32]++valS [] 1 1++[40]++[97]++[41],[119,104,101,110,32]++valS [] 2 0++[40]++[98]++[41]] [32]=_;rw[h2];decide +kernel
 unfold zms;rw[this];decide +kernel
theorem wvN{G Q:Prop}{f:FuncId}{v:SV}(hs:Pure Tryz.prog f cargs v)(k:Q)(h:Pure Tryz.prog f cargs v->Hold Q->G:=by
  intro hs k
  (apply zvF;exact hs;(iterate 3 exact rfl);(repeat' (first|exact trivial|exact Le.refl _|exact Le.nil _|refine qav ?_ ?_|refine Le.zAr rfl ?_|exact TLs.nil _|refine TLs.agL ?_|refine TLs.slL ?_|exact TLs.refl _|fail));exact rfl;exact rfl;exact k.p)):G:=h hs ⟨k⟩
theorem ztS(s:Str):Pure Tryz.prog 14 [.s s] (.t (.ag [T.i 2,T.i 0,T.i 0,T.i 0,T.s s,.sl 6 []])):=by
 refine so Tryz.func14 ?_;exact zwy
theorem zsG(n:Int):Pure Tryz.prog 15 [.i n] (.t (.ag [T.i 1,T.i 0,T.i 2,T.i n,T.s [],.sl 6 []])):=by
 refine so Tryz.func15 ?_;exact zwy
theorem aP_C:za3 aP=[.sl 2 [],.sl 8 [.ag [.s [102],.sl 3 [.ag [.s [97],T.i 1,.sl 3 []]],.sl 3 [.ag [.s [98],T.i 1,.sl 3 []]],.sl 3 [],.sl 7 [.ag [.sl 1 [.s [98]],T.i 3,T.i 1,T.i 0,T.i 0,.s [],.sl 6 [.ag [T.i 2,T.i 0,T.i 0,T.i 0,.s [97],.sl 6 []]]]],.sl 1 [],.sl 6 [],.sl 6 []]]]:=by
 show[T.sl 2 [],T.sl 8 [.ag [.s [102],.sl 3 [.ag [.s [97],T.i 1,.sl 3 []]],.sl 3 [.ag [.s [98],T.i 1,.sl 3 []]],.sl 3 [],.sl 7 [.ag [.sl 1 [.s [98]],T.i 3,T.i 1,T.i 0,T.i 0,.s [],.sl 6 [exT aA]]],.sl 1 [],.sl 6 [],.sl 6 []]]]=_;rw[zan];rfl
theorem zyP:exC aAdd=[T.i 3,T.i 6,T.i 0,T.i 0,.s [],.sl 6 [.ag [T.i 1,T.i 0,T.i 2,T.i 1,.s [],.sl 6 []],.ag [T.i 3,T.i 8,T.i 0,T.i 0,.s [],.sl 6 [.ag [T.i 2,T.i 0,T.i 0,T.i 0,.s [97],.sl 6 []],.ag [T.i 1,T.i 0,T.i 2,T.i (-2),.s [],.sl 6 []]]]]]:=by
 show[_,_,_,_,_,T.sl 6 [exT (aOne 1),exT aMul]]=_;rw[zan,zan,show exC aMul=[T.i 3,T.i 8,T.i 0,T.i 0,.s [],.sl 6 [exT aA,exT (aOne (-2))]] from rfl,zan,zan];rfl
theorem aP_w:(T.ag (za3 aP)).w≤2000:=by
 rw[aP_C];simp[w_ag,w_sl,T.w];decide +kernel
theorem zyX:Pure Tryz.prog 6 [] (.b true):=by
 have c1:=zfi aP (qax aP_w oB) fun h=>zti (zwD h) (qax aP_w oB)
 rw[zyR,aP_C]at c1;have hE:ShE []:=⟨qaN _,fun u hu=>(by cases hu),fun u hu=>(by cases hu)⟩;have c2:=znY hE aAdd (by rw[zyG];decide) (by rw[zoU];decide);rw[zyQ,zyP]at c2;have c3:=znX hE aCk oB oB;rw[zxb]at c3;have v1:=ztS [97];have n1:=zsG (-2);have n2:=zsG 1;refine so Tryz.func6 ?_;repeat' (first|refine wkb ?_|refine wv v1 ?_|refine wv n1 ?_|(apply TO.alloc zaf;(iterate 3 exact rfl))|refine wvN c1 ?_|exact wkc|refine wk2 ?_ ?_|(apply TO.want;exact rfl)|intro hc)
 trace_state
 apply rgS [_,_,_,_,_,_,_,_,_,_] (hE:=?hE)
 case hp=>
  repeat' (first|refine qav (fun env=>?_) ?_|refine wma ?_|refine wmv n2 ?_|refine wvN c2 ?_|exact trivial|exact⟨⟨rfl,rfl⟩,trivial⟩|refine wmk ?_|fail)
  done
 case hE=>exact rfl
 case hK=>
  repeat' (first|refine wu ?_|exact wkc|refine wk2 ?_ ?_|refine wvN c3 ?_|intro hc)
  exact wkr
theorem zyV(hw:(T.ag (za3 p)).w≤2200000)(h:(zaY p).2=0):ShPr p:=zti (zwD h) hw
end Go.Proofs.YtdicfgideclbdaaGreatDoor
