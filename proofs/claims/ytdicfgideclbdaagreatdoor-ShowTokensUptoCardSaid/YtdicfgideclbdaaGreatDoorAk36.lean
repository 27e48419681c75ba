import Derived.Test.YtdicfgideclbdaaGreatDoorAk20
import Derived.Test.YtdicfgideclbdaaGreatDoorAk24
import Derived.Test.YtdicfgideclbdaaGreatDoorAk35
set_option maxHeartbeats 64000000
set_option linter.all false
namespace Go.Proofs.YtdicfgideclbdaaGreatDoor
open Go Go.TL
attribute [local irreducible] TR TO Then zaj RetK Sound zac Kf GG zaQ
variable {cargs:List SV}{f:Ex->Str}{A B x nm:Str}{Ka Kb K:List Tk}{k o:Int}{g:Ex->List Tk}{es:List En}{l:List Str}{p:Prog}{seen:List (Int×Str×Int)}
section rules
variable {n:Nat}{env env':Env}{H H':Heap}{K:TK}{all:Array Oper}{rest l:List Oper}{d:Nat}{ty:TypeId}{pos:String}{aft:Array Edge}{q:Bool}{st:St}{fr fr':List Fr1}
theorem goB(h:run1 tab n true 300 ⟨.ops q all l,env,H,[]⟩=some ⟨st,env',H',fr'⟩)(hk:GG Tryz.prog n K ⟨st,env',H',fr'⟩):TO q Tryz.prog n all l env H K:=TO.go0 zaf 300 true h hk
theorem zvA{v:SV}{f:Operand}{fid:FuncId}{caps:List SV}{args:Array Operand}{ts:Array TypeId}{vs:List SV}(hs:Pure Tryz.prog fid cargs v)(hd:Nat.ble (d+1) n=true)
  (hf:env.val f=some (.fn fid caps))(ha:env.vals args.toList=some vs)(hl:Les (vs++caps) cargs)(hu:unders 0 cargs=true)(hv:v.under 0=true)
  (k:TO false Tryz.prog n all rest ((d,v)::env) H K):
  TO false Tryz.prog n all (⟨some d,.call { callee:=.value f,args:=args,argTypes:=ts },ty,pos,aft,none⟩::rest) env H K:=TO.zgs hs hd hf ha hl hu hv k
end rules
theorem wma{G Q:Prop}(k:Q)(h:Hold Q->G:=by
  first
  | (intro k;apply goA;exact rfl;(first|apply GG.to|apply GG.stop|apply GG.ex);exact k.p)
  | (intro k;apply goC;exact rfl;(first|apply GG.to|apply GG.stop|apply GG.ex);exact k.p)
  | (intro k;apply goB;exact rfl;(first|apply GG.to|apply GG.stop|apply GG.ex);exact k.p)):G:=h ⟨k⟩
theorem wmv{G Q:Prop}{f:FuncId}{v:SV}(hs:Pure Tryz.prog f cargs v)(k:Q)(h:Pure Tryz.prog f cargs v->Hold Q->G:=by
  intro hs k;apply zvA;exact hs;(iterate 3 exact rfl);exact zqa;exact rfl;exact rfl;exact k.p):G:=h hs ⟨k⟩
theorem LxP.thn(hA:LxP A Ka)(hB:LxP B Kb):LxP (A++32::B) (Ka++Kb):=hA.app (hB.blank oB) ⟨32,B,rfl,oB⟩
theorem LxP.cnc{t:Tk}(hA:LxP A [t])(hB:LxP B Kb):LxP (A++32::B) (t::Kb):=hA.thn hB
theorem LxP.brk(hA:LxP A Ka):LxP (40::(A++[41])) (tL::(Ka++[tR])):=(hA.app (LxP.cl LxP.emp) ⟨41,[],rfl,oB⟩).br
theorem LxP.nam(hk:k≠5)(h:zbQ k x):LxP x [(k,x)]:=by
 have:=LxP.tok h
 have e:zar (k,x,0)=x:=by unfold zar;rw[oH (by simpa using hk)]
 rw[e]at this;exact this
theorem zb3(h:∃c w,x=c::w/\letter c.toNat=true/\(∀d∈x,inner d.toNat=true)/\zcA x=(3,x,0)):LxP x [(3,x)]:=LxP.nam oB (.inl h)
theorem zcF(h:x∈zck):LxP x [(4,x)]:=LxP.nam oB (.inr (.inr (.inr ⟨rfl,h⟩)))
def HdO(T:Str):Prop:=∃c r,T=c::r/\c≠45/\c≠62
theorem HdO.name{s:Str}(h:zbQ 1 s)(R:Str):HdO (s++R):=by
 rcases h with ⟨c,w,rfl,hc,_,_⟩|⟨c,w,_,_,h⟩|⟨h,_⟩|⟨h,_⟩
 ·refine⟨c,w++R,rfl,?_,?_⟩ <;> (rintro rfl;revert hc;decide)
 ·exact oI (zpr h).1 oB
 ·exact oI h oB
 ·exact oI h oB
theorem zxY(h1:3≤o)(h2:o≤16):LxP (symS o) [opTk o]:=by
 have:o=3\/o=4\/o=5\/o=6\/o=7\/o=8\/o=9\/o=10\/o=11\/o=12\/o=13\/o=14\/o=15\/o=16:=oA
 rcases this with rfl|rfl|rfl|rfl|rfl|rfl|rfl|rfl|rfl|rfl|rfl|rfl|rfl|rfl
 case inl=>exact zb3 (x:=[97,110,100]) ⟨_,_,rfl,oB,oB,oB⟩
 case inr.inl=>exact zb3 (x:=[111,114]) ⟨_,_,rfl,oB,oB,oB⟩
 case inr.inr.inl=>exact zb3 (x:=[120,111,114]) ⟨_,_,rfl,oB,oB,oB⟩
 case inr.inr.inr.inl=>exact zcF (x:=[43]) oB
 case inr.inr.inr.inr.inl=>exact zcF (x:=[45]) oB
 case inr.inr.inr.inr.inr.inl=>exact zcF (x:=[42]) oB
 case inr.inr.inr.inr.inr.inr.inl=>exact zcF (x:=[47]) oB
 case inr.inr.inr.inr.inr.inr.inr.inl=>exact zb3 (x:=[109,111,100]) ⟨_,_,rfl,oB,oB,oB⟩
 case inr.inr.inr.inr.inr.inr.inr.inr.inl=>exact zcF (x:=[61]) oB
 case inr.inr.inr.inr.inr.inr.inr.inr.inr.inl=>exact zcF (x:=[60,62]) oB
 case inr.inr.inr.inr.inr.inr.inr.inr.inr.inr.inl=>exact zcF (x:=[60]) oB
 case inr.inr.inr.inr.inr.inr.inr.inr.inr.inr.inr.inl=>exact zcF (x:=[60,61]) oB
 case inr.inr.inr.inr.inr.inr.inr.inr.inr.inr.inr.inr.inl=>exact zcF (x:=[62]) oB
 case inr.inr.inr.inr.inr.inr.inr.inr.inr.inr.inr.inr.inr=>exact zcF (x:=[62,61]) oB
structure zw0 (T:Str) (K:List Tk) (O:Str) (KO:List Tk):Prop where
 t:LxP T K
 o:LxP O KO
 hd:HdO O
theorem zBk{e:Ex}(h:LxP (f e) (g e))(hd:zqQ e=true->HdO (f e)):zw0 (f e) (g e) (grS f e) (tkO g e):=by
 unfold grS tkO;have hpp:zhn e=zqQ e:=rfl;rw[hpp];split
 ·rename_i hp;exact⟨h,h,hd hp⟩
 ·refine⟨h,?_,40,f e++[41],rfl,oB,oB⟩;exact h.brk
theorem zsm:∀(l:List Ex),(∀x∈l,LxP (f x) (g x))->LxP (Go.Lib.join (l.map f) [44,32]) (zhf (l.map fun x=>(x,g x)))
 | [],_=>LxP.emp
 | x::l,h=>by
   rw[qaf,Go.Lib.join_cons,qaf]
   have tl:∀(l:List Ex),(∀x∈l,LxP (f x) (g x))->LxP (Go.Lib.joinTail [44,32] (l.map f)) (zgr (l.map fun x=>(x,g x))):=by
    intro l
    induction l with
    | nil=>intro _;exact LxP.emp
    | cons y l ih=>
      intro h;have h1:=h y qah;have h2:=ih (fun z hz=>h z (qai _ hz));rw[qaf,qaf,ze3];have e:Go.Lib.joinTail [44,32] (f y::l.map f)=44::32::(f y++Go.Lib.joinTail [44,32] (l.map f)):=by simp[Go.Lib.joinTail]
      rw[e];refine LxP.comma (LxP.blank oB ?_);cases l with
      | nil=>
        have e1:Go.Lib.joinTail [44,32] (([]:List Ex).map f)=[]:=rfl;rw[e1,qaz];show LxP (f y) (g y++[]);rw[qaz];exact h1
      | cons z l=>
        refine h1.app h2 ⟨44,_,by simp[Go.Lib.joinTail];rfl,oB⟩
   have h1:=h x qah;have h2:=tl l (fun z hz=>h z (qai _ hz));cases l with
   | nil=>
     have e1:Go.Lib.joinTail [44,32] (([]:List Ex).map f)=[]:=rfl;rw[e1,qaz];show LxP (f x) (g x++[]);rw[qaz];exact h1
   | cons z l=>exact h1.app h2 ⟨44,_,by simp[Go.Lib.joinTail];rfl,oB⟩
theorem zzq:LxP [119,104,101,110] [zk0]:=zb3 ⟨_,_,rfl,oB,oB,oB⟩
theorem zAP:LxP [110,111,116] [tNot]:=zb3 ⟨_,_,rfl,oB,oB,oB⟩
theorem kwIf:LxP [105,102] [tIf]:=zb3 ⟨_,_,rfl,oB,oB,oB⟩
theorem zvW:LxP [116,104,101,110] [ziO]:=zb3 ⟨_,_,rfl,oB,oB,oB⟩
theorem zzn:LxP [101,108,115,101] [zqZ]:=zb3 ⟨_,_,rfl,oB,oB,oB⟩
theorem zAQ:LxP [112,114,101] [tPre]:=zb3 ⟨_,_,rfl,oB,oB,oB⟩
theorem zAN:LxP [102,98,121] [tFby]:=zb3 ⟨_,_,rfl,oB,oB,oB⟩
theorem zxD:LxP [109,101,114,103,101] [zgi]:=zb3 ⟨_,_,rfl,oB,oB,oB⟩
theorem zxC:LxP [101,118,101,114,121] [zmK]:=zb3 ⟨_,_,rfl,oB,oB,oB⟩
theorem zzk:LxP [45,62] [tArr]:=zcF oB
theorem zwK{o:OnC}(h:LxP (valS es o.t.1 o.tag.1) [tgTk es o.t.1 o.tag.1])(hn:zbQ 1 o.name):LxP (smpS es o) [zk0,tgTk es o.t.1 o.tag.1,tL,(1,o.name),tR]:=by
 have e:smpS es o=[119,104,101,110]++32::(valS es o.t.1 o.tag.1++40::(o.name++[41])):=by unfold smpS;simp
 rw[e];exact zzq.cnc (h.app (LxP.brk (LxP.nam oB hn)) ⟨40,_,rfl,oB⟩)
theorem zpd{es:List En}{f:Ex->Str}{g:Ex->List Tk}{t:Int}{args:List Ex}{s:Str}{K0:List Tk}(h0:LxP s K0):∀i,(∀j,j<i->LxP (valS es t (brV t j)) [tgTk es t (brV t j)]/\∃a,args[(brV t j).toNat]?=some a/\LxP (f a) (g a))->
  LxP (zbl es f t args s i) (K0++((List.range i).map fun j=>brTk (tgTk es t (brV t j),((args[(brV t j).toNat]?).map g).getD [])).flatten)
 | 0,_=>by simpa [zbl]using h0
 | i+1,h=>by
   have ih:=zpd h0 i (fun j hj=>h j oA);obtain⟨h1,a,h2,h3⟩:=h i (qbF i);have e:([32,40]++valS es t (brV t i)++[32,45,62,32]++((some a).map f).getD []++[41]:Str)=32::40::((valS es t (brV t i)++32::([45,62]++32::f a))++[41]):=oC
   rw[zbl,h2,e,List.range_succ,qaw,qbM];have h4:=(h1.cnc (zzk.cnc h3)).brk;have h5:=ih.app (LxP.blank (c:=32) oB h4) ⟨32,_,rfl,oB⟩;simp only[qaf,qaD,qaK,qca,qaz,h2,qaT,qbm];rw[<-qay];exact h5
section
structure NdL (es:List En) (e:Ex):Prop where
 kind:1≤e.kind.1/\e.kind.1≤11
 o3:e.kind.1=3->1≤e.op.1/\e.op.1≤16/\(e.args.length:Int)=opdI e.op.1
 k4:e.kind.1=4->e.args.length=3
 k5:e.kind.1=5\/e.kind.1=8->e.args.length=1
 k6:e.kind.1=6\/e.kind.1=7->e.args.length=2
 nm:e.kind.1=2\/e.kind.1=8\/e.kind.1=9\/e.kind.1=10->zbQ 1 e.name
 wd:e.kind.1=11->zbQ 5 e.name
 c1:e.kind.1=1->LxP (valS es e.t.1 e.v.1) (vlTk es e.t.1 e.v.1)/\((e.t.1≠2\/0≤e.v.1)->HdO (valS es e.t.1 e.v.1))
 c8:e.kind.1=8->LxP (valS es e.t.1 e.v.1) [tgTk es e.t.1 e.v.1]
 c9:e.kind.1=9->∀j,j<e.args.length->LxP (valS es e.t.1 (brV e.t.1 j)) [tgTk es e.t.1 (brV e.t.1 j)]
 k9:e.kind.1=9->e.t.1=1->e.args.length=2
 c10:e.kind.1=10->(e.v.1=0\/e.v.1=1)/\e.v.1≤e.args.length
variable {es:List En}{f:Ex->Str}{e:Ex}
theorem shE1(h:e.kind.1=1):shE es f e=valS es e.t.1 e.v.1:=by
 rw[shE,oG h]
theorem shE2(h:e.kind.1=2):shE es f e=e.name:=by
 rw[shE];(iterate 10 rw[oH (by rw[h];decide)])
theorem shE3(h:e.kind.1=3):shE es f e=zhm f e.op.1 e.args:=by
 rw[shE,oH (by rw[h];decide),oG h]
theorem shE4(h:e.kind.1=4):shE es f e=(match e.args with|[a,b,c]=>[105,102,32]++f a++[32,116,104,101,110,32]++f b++[32,101,108,115,101,32]++f c|_=>[]):=by
 rw[shE,oH (by rw[h];decide),oH (by rw[h];decide),oG h];rfl
theorem shE5(h:e.kind.1=5):shE es f e=(match e.args with|[a]=>[112,114,101,32]++grS f a|_=>[]):=by
 rw[shE];(iterate 3 rw[oH (by rw[h];decide)]);rw[oG h]
 rfl
theorem shE6(h:e.kind.1=6):shE es f e=(match e.args with|[a,b]=>grS f a++[32,45,62,32]++grS f b|_=>[]):=by
 rw[shE];(iterate 4 rw[oH (by rw[h];decide)]);rw[oG h]
 rfl
theorem shE7(h:e.kind.1=7):shE es f e=(match e.args with|[a,b]=>grS f a++[32,102,98,121,32]++grS f b|_=>[]):=by
 rw[shE];(iterate 5 rw[oH (by rw[h];decide)]);rw[oG h]
 rfl
theorem shE8(h:e.kind.1=8):shE es f e=(match e.args with|[a]=>grS f a++[32]++smpS es ⟨e.name,e.t,e.v⟩|_=>[]):=by
 rw[shE];(iterate 6 rw[oH (by rw[h];decide)]);rw[oG h]
 rfl
theorem shE9(h:e.kind.1=9):shE es f e=zbl es f e.t.1 e.args ([109,101,114,103,101,32]++e.name) e.args.length:=by
 rw[shE];(iterate 7 rw[oH (by rw[h];decide)]);rw[oG h]
theorem zz3(h:e.kind.1=10):shE es f e=zfs f e.v.1 e.name e.args:=by
 rw[shE];(iterate 8 rw[oH (by rw[h];decide)]);rw[oG h]
theorem zz4(h:e.kind.1=11):shE es f e=[39]++e.name++[39]:=by
 rw[shE];(iterate 9 rw[oH (by rw[h];decide)]);rw[oG h]
theorem znf{t:Int}{args:List Ex}(h:t=1->args.length=2):((List.range args.length).map fun j=>brTk (tgTk es t (brV t (j:Nat)),((args[(brV t (j:Nat)).toNat]?).map g).getD [])).flatten=zdG (brL es g t args):=by
 unfold brL zdG;by_cases ht:t=1
 ·rw[oG ht];have hl:=h ht;subst ht
  match args,hl with
  | [b,a],_=>
    show(([0,1]:List Nat).map _).flatten=_;rfl
 ·rw[oH ht];congr 1;rw[qa0];refine List.ext_getElem oC fun i h1 h2=>?_
  have hi:i<args.length:=by simpa using h1
  have hb:brV t i=(i:Int):=by unfold brV;rw[oH ht]
  simp only[qcb,List.getElem_range,hb,qcE,qad hi,qaT,qbm,Function.comp,List.getElem_zipIdx,qaV]
theorem zpO {es:List En}:∀(m:Nat) (e:Ex),wEx e≤m->(∀x∈flat e,NdL es x)->zw0 (shF es m e) (tkF es m e) (grS (shF es m) e) (tkO (tkF es m) e)
 | 0,e,h,_=>oI (zcG e) oA
 | m+1,e,h,hN=>by
   have ih:∀x∈e.args,zw0 (shF es m x) (tkF es m x) (grS (shF es m) x) (tkO (tkF es m) x):=fun x hx=>zpO m x (by
    rw[zgk]at h
    have:=ziN wEx hx
    omega) (fun y hy=>hN y (by
     rw[zb2];refine qai _ ?_;unfold flats;exact qbR.2 ⟨flat x,qaL.2 ⟨x,hx,rfl⟩,hy⟩))
   have hn:NdL es e:=hN e (by rw[zb2];exact qah);clear hN h;have hF:tkF es (m+1) e=tkE es (tkF es m) e:=rfl;have hS:shF es (m+1) e=shE es (shF es m) e:=rfl;generalize tkF es (m+1)=g' at*;generalize tkF es m=g at*;generalize shF es (m+1)=f' at*;generalize shF es m=f at*;refine zBk ?_ ?_
   case refine_2=>
    intro hp;have hp:=of_decide_eq_true hp;rw[hS];rcases hp with hk|hk|hk|⟨hk,hv⟩
    ·rw[shE2 hk]
     have:=HdO.name (hn.nm (.inl hk)) []
     rwa [qaz]at this
    ·rw[zz4 hk];exact⟨39,_,rfl,oB,oB⟩
    ·rw[zz3 hk];unfold zfs;split
     ·exact zwfe
     ·exact zwfe
    ·rw[shE1 hk];exact(hn.c1 hk).2 hv
   rw[hS,hF];have hk:e.kind.1=1\/e.kind.1=2\/e.kind.1=3\/e.kind.1=4\/e.kind.1=5\/e.kind.1=6\/e.kind.1=7\/e.kind.1=8\/e.kind.1=9\/e.kind.1=10\/e.kind.1=11:=by have:=hn.kind;omega
   rcases hk with hk|hk|hk|hk|hk|hk|hk|hk|hk|hk|hk
   ·rw[shE1 hk,tkE1 hk];exact(hn.c1 hk).1
   ·rw[shE2 hk,tkE2 hk];exact LxP.nam oB (hn.nm (.inl hk))
   ·rw[shE3 hk,tkE3 hk];obtain⟨o1,o2,o3⟩:=hn.o3 hk;unfold opdI at o3;generalize e.op.1=o at*;generalize e.args=args at*
    match args,ih,o3 with
    | [],_,o3=>exfalso;split at o3 <;> simp at o3
    | [a],ih,o3=>
      have ia:=ih a oC;by_cases h1:o=1
      ·rw[zpu h1,show zhm f o [a]=[110,111,116,32]++grS f a from oG h1];exact zAP.cnc ia.o
      ·by_cases h3:a.kind.1=1/\a.t.1=2
       ·rw[zmi h1 h3,show zhm f o [a]=[45,40]++f a++[41] from(oH h1).trans (oG h3)];exact LxP.minus (c:=40) oB oB ia.t.brk
       ·rw[zmj h1 h3,show zhm f o [a]=[45]++grS f a from(oH h1).trans (oH h3)];have hd:=ia.hd;have ho:=ia.o;generalize grS f a=G at*;obtain⟨c,r,rfl,g1,g2⟩:=hd;exact LxP.minus g1 g2 ho
    | [a,b],ih,o3=>
      have h3:3≤o:=by
       split at o3
       ·simp at o3
       ·omega
      show LxP (grS f a++[32]++symS o++[32]++grS f b) (tkO g a++opTk o::tkO g b)
      have:=(ih a oC).o.thn ((zxY h3 o2).cnc (ih b oC).o)
      simpa using this
    | _::_::_::_,_,o3=>exfalso;simp at o3;split at o3 <;> omega
   ·rw[shE4 hk,tkE4 hk];have hl:=hn.k4 hk;generalize e.args=args at*
    match args,ih,hl with
    | [c,a,b],ih,_=>
      have:=kwIf.cnc ((ih c oC).t.thn (zvW.cnc ((ih a oC).t.thn (zzn.cnc (ih b oC).t))))
      simpa using this
   ·rw[shE5 hk,tkE5 hk];have hl:=hn.k5 (.inl hk);generalize e.args=args at*
    match args,ih,hl with
    | [a],ih,_=>exact zAQ.cnc (ih a oC).o
   ·rw[shE6 hk,tkE6 hk];have hl:=hn.k6 (.inl hk);generalize e.args=args at*
    match args,ih,hl with
    | [a,b],ih,_=>
      have:=(ih a oC).o.thn (zzk.cnc (ih b oC).o)
      simpa using this
   ·rw[shE7 hk,tkE7 hk];have hl:=hn.k6 (.inr hk);generalize e.args=args at*
    match args,ih,hl with
    | [a,b],ih,_=>
      have:=(ih a oC).o.thn (zAN.cnc (ih b oC).o)
      simpa using this
   ·rw[shE8 hk,tkE8 hk];have hl:=hn.k5 (.inr hk);have hsm:=zwK (es:=es) (o:=⟨e.name,e.t,e.v⟩) (hn.c8 hk) (hn.nm oA);generalize e.args=args at*
    match args,ih,hl with
    | [a],ih,_=>
      have:=(ih a oC).o.thn hsm
      simpa using this
   ·rw[shE9 hk,tkE9 hk,<-znf (hn.k9 hk)];have h0:LxP ([109,101,114,103,101,32]++e.name) [zgi,(1,e.name)]:=zxD.cnc (LxP.nam oB (hn.nm oA));refine zpd (f:=f) (g:=g) h0 e.args.length fun j hj=>⟨hn.c9 hk j hj,?_⟩
    have hb:(brV e.t.1 j).toNat<e.args.length:=by
     unfold brV;split
     ·rename_i ht
      have:=hn.k9 hk ht
      omega
     ·omega
    exact⟨e.args[(brV e.t.1 j).toNat],qad hb,(ih _ (qak hb)).t⟩
   ·rw[zz3 hk,zAd hk];obtain⟨hv,hvl⟩:=hn.c10 hk;have hnm:=LxP.nam oB (hn.nm oA);unfold zfs zpP;rcases hv with hv|hv
    ·rw[oH oA,oH oA]
     have:=hnm.app (LxP.brk (zsm e.args fun x hx=>(ih x hx).t)) ⟨40,_,rfl,oB⟩
     simpa using this
    ·rw[oG hv,oG hv];have hpos:e.args.length-1<e.args.length:=oA
     rw[qad hpos];have hj:=zsm (f:=f) (g:=g) (e.args.take (e.args.length-1)) fun x hx=>(ih x (qaS hx)).t
     have hl:=(ih _ (qak hpos)).o
     have:=hnm.app ((LxP.brk hj).thn (zxC.cnc hl)) ⟨40,_,rfl,oB⟩
     simpa using this
   ·rw[zz4 hk,zAe hk]
    have:=LxP.tok (hn.wd hk)
    simpa [zar]using this
end
theorem zdL{t v n:Int}(h:oneI k o t v nm n=0):n≤64/\(ofF k o t v n).args=true/\(ofF k o t v n).typed=true/\(ofF k o t v n).op=decide (o≠0)/\((ofF k o t v n).op=true->1≤o/\o≤16)/\
  ((ofF k o t v n).name=true->ident nm=true)/\((ofF k o t v n).name=false->(ofF k o t v n).word=true->(zez nm).2=0)/\((ofF k o t v n).name=false->(ofF k o t v n).word=false->nm=[]):=by
 unfold oneI at h;generalize ofF k o t v n=f at*;split at h
 ·cases h
 rename_i h1;split at h
 ·cases h
 rename_i h2;simp only[not_or,not_and]at h2;obtain⟨g1,g2,g3,g4⟩:=h2;refine⟨oA,by simpa using g1,by simpa using g2,Classical.not_not.1 g3,fun hp=>?_,?_,?_,?_⟩
 ·have:=g4 hp;omega
 ·intro hp;rw[oG hp]at h;split at h
  ·assumption
  ·cases h
 ·intro hp hw;rw[oH (by rw[hp];simp)]at h;split at h
  ·rename_i hq;exact hq.2
  ·split at h
   ·cases h
   ·rename_i hq;simp[hw]at hq
 ·intro hp hw;rw[oH (by rw[hp];simp),oH (by rw[hw];simp)]at h;split at h
  ·cases h
  ·rename_i hq;simp only[not_or,Classical.not_not]at hq;exact hq.1
theorem zA2{t v n:Int}(h:oneI 1 o t v nm n=0):n=0/\o=0/\nm=[]/\(t=2/\-32768≤v/\v≤32767\/t≠2/\tagI t v=true):=by
 obtain⟨_,a,b,c,_,_,_,d⟩:=zdL h;have hd:=d rfl rfl;have ha:decide (n=0)=true:=a;have hb:((decide (t=2) && decide (-32768≤v) && decide (v≤32767)) || (!decide (t=2) && tagI t v))=true:=b;have hc:false=decide (o≠0):=c;simp only[qbL,qar,decide_eq_true_eq,qbA,decide_eq_false_iff_not]at ha hb;have hc':=of_decide_eq_false hc.symm;refine⟨ha,oA,hd,?_⟩;rcases hb with hb|hb
 ·exact .inl ⟨hb.1.1,hb.1.2,hb.2⟩
 ·exact .inr hb
theorem zme{o t v:Int}(hb:(decide (t=0) && decide (v=0))=true):t=0/\v=0:=by simpa using hb
theorem znS(hc:false=decide (o≠0)):o=0:=by
 have:=of_decide_eq_false hc.symm;omega
theorem zA3{t v n:Int}(h:oneI 2 o t v nm n=0):n=0/\o=0/\t=0/\v=0/\ident nm=true:=by
 obtain⟨_,a,b,c,_,d,_,_⟩:=zdL h;have hb:=zme (o:=o) b;exact⟨of_decide_eq_true a,znS c,hb.1,hb.2,d rfl⟩
theorem zA4{t v n:Int}(h:oneI 3 o t v nm n=0):n=opdI o/\1≤o/\o≤16/\t=0/\v=0/\nm=[]:=by
 obtain⟨_,a,b,_,e,_,_,d⟩:=zdL h;have hb:=zme (o:=o) b;have he:=e rfl;exact⟨of_decide_eq_true a,he.1,he.2,hb.1,hb.2,d rfl rfl⟩
theorem zA5{t v n:Int}(h:oneI 4 o t v nm n=0):n=3/\o=0/\t=0/\v=0/\nm=[]:=by
 exact zwcn
theorem zA6{t v n:Int}(h:oneI 5 o t v nm n=0):n=1/\o=0/\t=0/\v=0/\nm=[]:=by
 exact zwcn
theorem zzL{t v n:Int}(hk:k=6\/k=7)(h:oneI k o t v nm n=0):n=2/\o=0/\t=0/\v=0/\nm=[]:=by
 obtain⟨_,a,b,c,_,_,_,d⟩:=zdL h;rcases hk with rfl|rfl
 all_goals
  have hb:=zme (o:=o) b;exact⟨of_decide_eq_true a,znS c,hb.1,hb.2,d rfl rfl⟩
theorem zA7{t v n:Int}(h:oneI 8 o t v nm n=0):n=1/\o=0/\t≠2/\tagI t v=true/\ident nm=true:=by
 obtain⟨_,a,b,c,_,d,_,_⟩:=zdL h;have hb:(!decide (t=2) && tagI t v)=true:=b;simp only[qar,qbA,decide_eq_false_iff_not]at hb;exact⟨of_decide_eq_true a,znS c,hb.1,hb.2,d rfl⟩
theorem zA8{t v n:Int}(h:oneI 9 o t v nm n=0):t≠2/\zkd t n=true/\v=0/\o=0/\ident nm=true:=by
 obtain⟨_,a,b,c,_,d,_,_⟩:=zdL h;have ha:(!decide (t=2) && zkd t n)=true:=a;simp only[qar,qbA,decide_eq_false_iff_not]at ha;exact⟨ha.1,ha.2,of_decide_eq_true b,znS c,d rfl⟩
theorem zzJ{t v n:Int}(h:oneI 10 o t v nm n=0):v≤n/\t=0/\(v=0\/v=1)/\o=0/\ident nm=true:=by
 obtain⟨_,a,b,c,_,d,_,_⟩:=zdL h;have hb:(decide (t=0) && (decide (v=0) || decide (v=1)))=true:=b;simp only[qar,qbL,decide_eq_true_eq]at hb;exact⟨of_decide_eq_true a,hb.1,hb.2,znS c,d rfl⟩
theorem zzK{t v n:Int}(h:oneI 11 o t v nm n=0):n=0/\o=0/\t=0/\v=0/\(zez nm).2=0:=by
 obtain⟨_,a,b,c,_,_,d,_⟩:=zdL h;have hb:=zme (o:=o) b;exact⟨of_decide_eq_true a,znS c,hb.1,hb.2,d rfl rfl⟩
theorem zA9{t v n:Int}(h:oneI k o t v nm n=0):1≤k/\k≤11:=by
 obtain⟨_,a,_⟩:=zdL h;unfold ofF at a;by_cases h0:1≤k/\k≤11
 ·exact h0
 ·exfalso;rw[oH oA,oH oA,oH oA,oH oA,oH oA,oH oA,oH oA,oH oA,oH oA,oH oA]at a;cases a
structure EnW (es:List En):Prop where
 id:∀u∈es,∀s∈u.tags,ident s=true
 tag:∀(i j:Nat) (u:En) (s:Str),es[i]?=some u->u.tags[j]?=some s->zbu s 0 es=some (3+i,j)
theorem zvM{t v:Int}(h3:3≤t)(hv:0≤v)(hl:v<((zaL es t).1.tags.length:Int)):∃u s,es[(t-3).toNat]?=some u/\zaL es t=(u,true)/\u.tags[v.toNat]?=some s:=by
 unfold zaL at hl⊢;split at hl
 ·rename_i h;rw[oG h];cases hu:es[(t-3).toNat]? with
  | none=>rw[hu]at hl;simp at hl;omega
  | some u=>
    rw[hu]at hl
    have hlt:v.toNat<u.tags.length:=by
     have:v<(u.tags.length:Int):=hl
     omega
    exact⟨u,u.tags[v.toNat],rfl,rfl,qad hlt⟩
 ·simp at hl;omega
theorem zys{t v:Int}(h3:3≤t)(hv:0≤v)(hl:v<((zaL es t).1.tags.length:Int)):∃u s,es[(t-3).toNat]?=some u/\u.tags[v.toNat]?=some s/\valS es t v=s/\tgTk es t v=(1,s):=by
 obtain⟨u,s,h1,h2,h4⟩:=zvM h3 hv hl;refine⟨u,s,h1,h4,?_,?_⟩
 ·unfold valS zji zii zdn hasT zbf;rw[h2]at hl⊢;have hd:(decide (0≤v) && decide (v<(u.tags.length:Int)))=true:=by simp;exact⟨hv,hl⟩
  simp only[oH (show ¬t=1 by omega),oH (show ¬t=2 by omega),hd,h4];rfl
 ·unfold tgTk;rw[oH oA,h2];simp only[h4];rfl
theorem zlb{v:Int}(h:v=0\/v=1):LxP (valS es 1 v) [tgTk es 1 v]/\HdO (valS es 1 v)/\TagW ⟨K,es⟩ 1 v.toNat (tgTk es 1 v):=by
 rcases h with rfl|rfl
 ·exact⟨zb3 (x:=[102,97,108,115,101]) ⟨_,_,rfl,oB,oB,oB⟩,⟨102,_,rfl,oB,oB⟩,.ff⟩
 ·exact⟨zb3 (x:=[116,114,117,101]) ⟨_,_,rfl,oB,oB,oB⟩,⟨116,_,rfl,oB,oB⟩,.tt⟩
theorem zpX(hE:EnW es){t v:Int}(h3:3≤t)(hv:0≤v)(hl:v<((zaL es t).1.tags.length:Int)):LxP (valS es t v) [tgTk es t v]/\HdO (valS es t v)/\TagW ⟨K,es⟩ t.toNat v.toNat (tgTk es t v):=by
 obtain⟨u,s,h1,h2,h4,h5⟩:=zys h3 hv hl;have hid:zbQ 1 s:=zbH (hE.id u (qau h1) s (qau h2));rw[h4,h5];refine⟨LxP.nam oB hid,?_,?_⟩
 ·have:=HdO.name hid []
  rwa [qaz]at this
 ·refine .id s oA ?_;show zbu s 0 es=_;rw[hE.tag _ _ u s h1 h2];congr 2;omega
theorem zsh{t v n:Int}(hk:k=1\/k=8)(h:insI es k t v n=0):hasT es t v=true:=by
 unfold insI at h;rw[oG oA]at h;split at h
 ·cases h
 ·split at h
  ·cases h
  ·rename_i h2;cases hb:hasT es t v with
   | true=>rfl
   | false=>exact oI ⟨oA,hb⟩ h2
theorem zzb{t v:Int}(h3:3≤t)(h:hasT es t v=true):0≤v/\v<((zaL es t).1.tags.length:Int):=by
 unfold hasT zbf at h;rw[oH oA,oH oA,oH oA]at h;simpa using h
theorem zo3{t v n:Int}(h:insI es 9 t v n=0)(h3:3≤t):n=((zaL es t).1.tags.length:Int):=by
 unfold insI at h;rw[oG oA]at h;split at h
 ·cases h
 ·split at h
  ·cases h
  ·split at h
   ·cases h
   ·rename_i h2
    have:n=zbf es t:=by
     by_cases hq:n=zbf es t
     ·exact hq
     ·exact oI ⟨oB,hq⟩ h2
    rw[this];unfold zbf;rw[oH oA,oH oA]
theorem zoi(hE:EnW es){t v:Int}(ht:tagI t v=true)(hh:hasT es t v=true):LxP (valS es t v) [tgTk es t v]/\HdO (valS es t v)/\TagW ⟨K,es⟩ t.toNat v.toNat (tgTk es t v)/\t=t.toNat/\v=v.toNat:=by
 unfold tagI at ht;simp only[qbL,qar,decide_eq_true_eq]at ht;rcases ht with ⟨rfl,hv⟩|⟨⟨h3,h0⟩,_⟩
 ·obtain⟨a,b,c⟩:=zlb (es:=es) (K:=K) hv;exact⟨a,b,c,rfl,oA⟩
 ·obtain⟨g1,g2⟩:=zzb h3 hh;obtain⟨a,b,c⟩:=zpX hE (K:=K) h3 g1 g2;exact⟨a,b,c,oA,oA⟩
theorem zyr{v:Int}(h1:-32768≤v)(h2:v≤32767)(hh:hasT es 2 v=true):LxP (valS es 2 v) (vlTk es 2 v)/\(0≤v->HdO (valS es 2 v)):=by
 have hs:valS es 2 v=Go.Lib.itoa v:=by
  unfold valS zji;rw[oH (by show ¬(true=false);simp),oH (by rw[hh];simp),oH oB,oG rfl]
 rw[hs]
 have hd:∀u:Nat,∃c w,Go.Lib.decDigits u=c::w/\c≠45/\c≠62:=by
  intro u;have h:=zlE u
  have hne:Go.Lib.decDigits u≠ []:=by
   by_cases hu:u<10
   ·rw[zeE hu];simp
   ·rw[zcX oA];simp
  generalize Go.Lib.decDigits u=x at h hne⊢;cases x with
  | nil=>exact oI rfl hne
  | cons c w=>
    have hc:=h c qah;exact⟨c,w,rfl,by rintro rfl;revert hc;decide,by rintro rfl;revert hc;decide⟩
 unfold Go.Lib.itoa;by_cases hv:v<0
 ·rw[oG hv,zwU rfl hv];refine⟨?_,fun h=>oA⟩;obtain⟨c,w,e,g1,g2⟩:=hd v.natAbs;have hn:=LxP.nam oB (ztB (u:=v.natAbs) oA);rw[e]at hn⊢;exact LxP.minus g1 g2 hn
 ·rw[oH hv,zwV rfl hv];exact⟨LxP.nam oB (ztB oA),fun _=>hd _⟩
theorem zsB{l:List Ex}(h:(l.length:Int)=0):l=[]:=qaF oA
theorem zxb{t n:Int}(h:zkd t n=true):t=1/\n=2\/3≤t/\1≤n/\n≤16:=by
 unfold zkd at h;simp only[qbL,qar,decide_eq_true_eq]at h;omega
theorem zzC(hE:EnW es){x:Ex}(h1:oneX x=0)(h2:insX es x=0)(hv:x.kind.1=2->zbu x.name 0 es=none):NdL es x/\NdW ⟨K,es⟩ x:=by
 obtain⟨k,o,t,v,s,args⟩:=x;have h1:oneI k.1 o.1 t.1 v.1 s args.length=0:=h1;have h2:insI es k.1 t.1 v.1 args.length=0:=h2;have hv:k.1=2->zbu s 0 es=none:=hv;have hk0:=zA9 h1;have hk:k.1=1\/k.1=2\/k.1=3\/k.1=4\/k.1=5\/k.1=6\/k.1=7\/k.1=8\/k.1=9\/k.1=10\/k.1=11:=oA
 generalize hkk:k.1=kk at*;rcases hk with rfl|rfl|rfl|rfl|rfl|rfl|rfl|rfl|rfl|rfl|rfl
 ·obtain⟨a1,a2,a3,a4⟩:=zA2 h1;have hh:=zsh (.inl rfl) h2;constructor <;> constructor <;> dsimp only[Ex.kind,Ex.op,Ex.t,Ex.v,Ex.name,Ex.args] <;> try(first|(intros;omega)|exact fun _=>a2|exact fun _=>a3|exact fun _=>zsB a1)
  ·intro _;rcases a4 with ⟨ht,g1,g2⟩|⟨ht,htag⟩
   ·rw[ht]at hh⊢;obtain⟨p,q⟩:=zyr g1 g2 hh;exact⟨p,fun h=>q (h.resolve_left (fun hc=>hc rfl))⟩
   ·obtain⟨p,q,_⟩:=zoi hE (K:=K) htag hh;rw[zwW ht];exact⟨p,fun _=>q⟩
  ·intro _;rcases a4 with ⟨ht,g1,g2⟩|⟨ht,htag⟩
   ·exact .inl ⟨ht,g1,g2⟩
   ·obtain⟨_,_,r,e1,e2⟩:=zoi hE (K:=K) htag hh;exact .inr ⟨ht,_,_,e1,e2,r⟩
 ·obtain⟨a1,a2,a3,a4,a5⟩:=zA3 h1;constructor <;> constructor <;> dsimp only[Ex.kind,Ex.op,Ex.t,Ex.v,Ex.name,Ex.args] <;> try(first|(intros;omega)|exact fun _=>zsB a1|exact fun _=>zbH a5|exact fun _=>hv rfl)
 ·obtain⟨a1,a2,a3,a4,a5,a6⟩:=zA4 h1;constructor <;> constructor <;> dsimp only[Ex.kind,Ex.op,Ex.t,Ex.v,Ex.name,Ex.args] <;> try(first|(intros;omega)|exact fun _=>a6|exact fun _=>⟨a2,a3,a1⟩)
 ·obtain⟨a1,a2,a3,a4,a5⟩:=zA5 h1;exact zwcb
 ·obtain⟨a1,a2,a3,a4,a5⟩:=zA6 h1;exact zwcb
 ·obtain⟨a1,a2,a3,a4,a5⟩:=zzL (.inl rfl) h1;exact zwcb
 ·obtain⟨a1,a2,a3,a4,a5⟩:=zzL (.inr rfl) h1;exact zwcb
 ·obtain⟨a1,a2,a3,a4,a5⟩:=zA7 h1;have hh:=zsh (.inr rfl) h2;obtain⟨p,_,r,e1,e2⟩:=zoi hE (K:=K) a4 hh;constructor <;> constructor <;> dsimp only[Ex.kind,Ex.op,Ex.t,Ex.v,Ex.name,Ex.args] <;> try(first|(intros;omega)|exact fun _=>zbH a5|exact fun _=>p|exact fun _=>⟨_,_,e1,e2,r⟩)
 ·obtain⟨a1,a2,a3,a4,a5⟩:=zA8 h1;have hbr:=zxb a2
  have key:∀j:Nat,j<args.length->LxP (valS es t.1 (brV t.1 j)) [tgTk es t.1 (brV t.1 j)]:=by
   intro j hj;rcases hbr with ⟨ht,hn⟩|⟨h3,_,_⟩
   ·rw[ht];exact(zlb (K:=K) (by unfold brV;rw[oG rfl];omega)).1
   ·have hsz:=zo3 h2 h3;have hb:brV t.1 j=(j:Int):=by unfold brV;rw[oH oA]
    rw[hb];exact(zpX hE (K:=K) h3 oA oA).1
  have key3:t.1=1->args.length=2:=fun ht=>oA
  have key2:(t.1=1/\args.length=2)\/∃t':Nat,t.1=t'/\t'≠1/\(⟨K,es⟩:Rd).size t'=args.length/\1≤args.length/\∀j,j<args.length->TagW ⟨K,es⟩ t' j (tgTk es t' j):=by
   rcases hbr with ⟨ht,hn⟩|⟨h3,hn1,_⟩
   ·exact .inl ⟨ht,oA⟩
   ·right;have hsz:=zo3 h2 h3;refine⟨t.1.toNat,oA,oA,?_,oA,fun j hj=>?_⟩
    ·obtain⟨u,w,g1,g2,_⟩:=zvM (es:=es) h3 (Int.le_refl 0) oA;rw[g2]at hsz;unfold Rd.size;rw[oH oA,oH oA,show t.1.toNat-3=(t.1-3).toNat by omega]
     show(match es[(t.1-3).toNat]? with
      | some u=>u.tags.length
      | none=>0)=_
     rw[g1];have hsz':(args.length:Int)=(u.tags.length:Int):=hsz;show u.tags.length=args.length;omega
    ·have:=(zpX hE (K:=K) (v:=j) h3 oA oA).2.2
     rw[show((t.1.toNat:Nat):Int)=t.1 by omega];simpa using this
  constructor <;> constructor <;> dsimp only[Ex.kind,Ex.op,Ex.t,Ex.v,Ex.name,Ex.args] <;> try(first|(intros;omega)|exact fun _=>zbH a5|exact fun _=>key|exact fun _=>key2|exact fun _=>key3)
 ·obtain⟨a1,a2,a3,a4,a5⟩:=zzJ h1;constructor <;> constructor <;> dsimp only[Ex.kind,Ex.op,Ex.t,Ex.v,Ex.name,Ex.args] <;> try(first|(intros;omega)|exact fun _=>zbH a5|exact fun _=>⟨a3,a1⟩)
 ·obtain⟨a1,a2,a3,a4,a5⟩:=zzK h1;constructor <;> constructor <;> dsimp only[Ex.kind,Ex.op,Ex.t,Ex.v,Ex.name,Ex.args] <;> try(first|(intros;omega)|exact fun _=>zve a5|exact fun _=>zsB a1)
theorem zkr{α β:Type}{f:β->α->β×Int}{a:β}{x:α}{l:List α}(h:(zag f a (x::l)).2=0):(f a x).2=0/\zag f a (x::l)=zag f (f a x).1 l:=by
 by_cases h0:(f a x).2=0
 ·exact⟨h0,by rw[zag,oG h0]⟩
 ·rw[zag,oH h0]at h;exact oI h h0
theorem zdV{α β:Type}{f:β->α->β×Int}(I:β->Prop):∀(l:List α) (a:β),(∀a,∀x∈l,I a->(f a x).2=0->I (f a x).1)->I a->(zag f a l).2=0->I (zag f a l).1/\∀x∈l,∃b,I b/\(f b x).2=0
 | [],a,_,ha,_=>⟨ha,fun x hx=>by cases hx⟩
 | y::l,a,hs,ha,h=>by
   obtain⟨h0,h1⟩:=zkr h;rw[h1]at h⊢;obtain⟨h2,h3⟩:=zdV I l _ (fun b x hx=>hs b x (qai _ hx)) (hs a y qah ha h0) h;refine⟨h2,fun x hx=>?_⟩;rcases qa5.1 hx with rfl|hx
   ·exact⟨a,ha,h0⟩
   ·exact h3 x hx
abbrev keyQ (e:Int×Str×Int):Int×Str:=(e.1,e.2.1)
theorem zfb{l:List (Int×Str×Int)}{s:Str}:(zaB l k s).isSome=true ↔ (k,s)∈l.map keyQ:=by
 unfold zaB;rw[Option.isSome_map,List.find?_isSome];constructor
 ·rintro⟨x,hx,h⟩;obtain⟨h1,h2⟩:=of_decide_eq_true h;exact qaL.2 ⟨x,hx,by unfold keyQ;rw[h1,h2]⟩
 ·intro h;obtain⟨x,hx,h⟩:=qaL.1 h;unfold keyQ at h;injection h with h1 h2
  exact⟨x,hx,decide_eq_true ⟨h1,h2⟩⟩
theorem zlR:∀(l seen:List (Int×Str×Int)),(seen.map keyQ).Nodup->(zag addF seen l).2=0->(zag addF seen l).1=seen++l/\((seen++l).map keyQ).Nodup
 | [],seen,hn,_=>by rw[qaz];exact⟨rfl,hn⟩
 | x::l,seen,hn,h=>by
   obtain⟨h0,h1⟩:=zkr h;rw[h1]at h⊢
   have h2:keyQ x ∉ seen.map keyQ:=fun hm=>by
    unfold addF at h0;rw[oG (zfb.2 hm)]at h0;exact oI (show(7:Int)=0 from h0) oB
   have h3:((seen++[x]).map keyQ).Nodup:=by
    rw[qaw,qbs];refine⟨hn,oC,fun a ha b hb=>?_⟩;rw[qcw,qbl]at hb;subst hb;rintro rfl;exact h2 ha
   have h4:=zlR l (seen++[x]) h3 h;rw[qay]at h4;exact h4
def entQ(x:En×Nat):List (Int×Str×Int):=(2,x.1.name,(x.2:Int))::zeZ x.1 x.2
theorem zks:∀(l:List (En×Nat)) (seen:List (Int×Str×Int)),(seen.map keyQ).Nodup->(zag enF seen l).2=0->(zag enF seen l).1=seen++(l.map entQ).flatten/\((seen++(l.map entQ).flatten).map keyQ).Nodup
 | [],seen,hn,_=>by simp only[qaD,qca,qaz];exact⟨rfl,hn⟩
 | x::l,seen,hn,h=>by
   obtain⟨h0,h1⟩:=zkr h;rw[h1]at h⊢;obtain⟨h2,h3⟩:=zlR (entQ x) seen hn h0;have h4:(enF seen x).1=seen++entQ x:=h2;rw[h4]at h⊢;have h5:=zks l (seen++entQ x) h3 h;rw[qay]at h5;exact h5
theorem zgz{s:Str}:∀ {l:List Str} {k:Nat},s ∉ l->idxOf s k l=none
 | [],k,_=>rfl
 | t::l,k,h=>by
   rw[idxOf,oH (show ¬t=s from fun e=>h (by rw[e];exact qah)),zgz (fun hm=>h (qai _ hm))]
theorem zkx{s:Str}:∀ {l:List Str} {k j:Nat},l.Nodup->l[j]?=some s->idxOf s k l=some (k+j)
 | t::l,k,0,_,h=>by
   rw[qcf]at h;injection h with h
   rw[idxOf,oG h];rfl
 | t::l,k,j+1,hn,h=>by
   rw[qaU]at h;have hm:=qau h;rw[idxOf,oH (show ¬t=s from fun e=>(qbz.1 hn).1 (by rw[e];exact hm)),zkx (qbz.1 hn).2 h];congr 1;omega
theorem zwO{s:Str}:∀ {es:List En} {k i j:Nat} {u:En},((es.map En.tags).flatten).Nodup->es[i]?=some u->u.tags[j]?=some s->zbu s k es=some (3+k+i,j)
 | x::es,k,0,j,u,hn,h,hj=>by
   rw[qcf]at h;injection h with h
   subst h;rw[qaf,qaK,qbs]at hn;rw[zbu,zkx hn.1 hj];simp
 | x::es,k,i+1,j,u,hn,h,hj=>by
   rw[qaU]at h;rw[qaf,qaK,qbs]at hn;have hm:s∈(es.map En.tags).flatten:=qbR.2 ⟨u.tags,qaL.2 ⟨u,qau h,rfl⟩,qau hj⟩;rw[zbu,zgz (fun hs=>hn.2.2 s hs s hm rfl),zwO hn.2.1 h hj];simp only[qaI,qbt,and_true];omega
theorem ziP{s:Str}:∀ {es:List En} {k:Nat},(∀u∈es,s ∉ u.tags)->zbu s k es=none
 | [],_,_=>rfl
 | x::es,k,h=>by
   rw[zbu,zgz (h x qah)];exact ziP fun u hu=>h u (qai _ hu)
theorem zlP:∀(es:List En) (k:Nat),((((es.zipIdx k).map entQ).flatten.map keyQ).Nodup->((es.map En.tags).flatten).Nodup)/\∀s,s∈(es.map En.tags).flatten->((0:Int),s)∈((es.zipIdx k).map entQ).flatten.map keyQ
 | [],k=>⟨fun _=>oC,fun s hs=>by simp at hs⟩
 | x::es,k=>by
   obtain⟨h1,h2⟩:=zlP es (k+1);have ht:(zeZ x (k:Int)).map keyQ=x.tags.map fun s=>((0:Int),s):=by simp[zeZ,keyQ]
   rw[qcJ,qaf,qaK,qaw,qaf,qaK];constructor
   ·intro hn;rw[qbs]at hn⊢;obtain⟨n1,n2,n3⟩:=hn;unfold entQ at n1 n3;simp only[qaf,ht]at n1 n3;refine⟨?_,h1 n2,fun a ha b hb hab=>?_⟩
    ·exact List.Pairwise.of_map (fun s=>((0:Int),s)) (fun a b hh e=>hh (by rw[e])) (qbz.1 n1).2
    ·subst hab;exact n3 (0,a) (qai _ (qaL.2 ⟨a,ha,rfl⟩)) (0,a) (h2 a hb) rfl
   ·intro s hs;rw[qbe]at hs⊢;rcases hs with hs|hs
    ·left;unfold entQ
     simp only[qaf,ht];exact qai _ (qaL.2 ⟨s,hs,rfl⟩)
    ·exact .inr (h2 s hs)
theorem zc4(h:(zcO p).2=0):(zaX p).2=0/\(zag enF [] p.enums.zipIdx).2=0/\(zag (nodF p) (zag enF [] p.enums.zipIdx).1 p.nodes.zipIdx).2=0:=by
 unfold zcO at h;have h1:(zaX p).2=0:=qaA fun hh=>by rw[oG hh]at h;exact hh h
 rw[oH (by simp[h1])]at h;have h2:(zag enF [] p.enums.zipIdx).2=0:=qaA fun hh=>by rw[oG hh]at h;exact hh h
 rw[oH (by simp[h2])]at h;exact⟨h1,h2,qaA fun hh=>by rw[oH hh]at h;exact hh h⟩
theorem zb5{s:Str}(h:zcg s=0):ident s=true:=by
 unfold zcg at h;split at h
 ·assumption
 ·cases h
theorem zn2(h:(zaX p).2=0):∀u∈p.enums,∀s∈u.tags,ident s=true:=by
 unfold zaX at h;have h1:limE p=0:=qaA fun hh=>by rw[oG hh]at h;exact hh h
 rw[oH (by simp[h1])]at h;have h2:zad zew p.enums=0:=qaA fun hh=>by rw[oG hh]at h;exact hh h
 intro u hu s hs;have h3:=zab h2 u hu;unfold zew at h3;exact zb5 (zab (zaG (zaG (zaG h3).2).2).2 s hs)
structure EnS (es:List En) (seen:List (Int×Str×Int)):Prop where
 tag:∀u∈es,∀s∈u.tags,(zaB seen 0 s).isSome=true
theorem EnS.add(h:EnS es seen)(e:Int×Str×Int):EnS es (seen++[e]):=
 ⟨fun u hu s hs=>zfb.2 (by rw[qaw,qbe];exact .inl (zfb.1 (h.tag u hu s hs)))⟩
theorem ziA(h:(zcO p).2=0):EnW p.enums/\EnS p.enums (zag enF [] p.enums.zipIdx).1:=by
 obtain⟨h1,h2,_⟩:=zc4 h;obtain⟨h3,h4⟩:=zks p.enums.zipIdx [] oC h2;rw[qaP]at h3 h4;obtain⟨h5,h6⟩:=zlP p.enums 0;refine⟨⟨zn2 h1,fun i j u s hi hj=>by have:=zwO (k:=0) (h5 h4) hi hj;simpa using this⟩,⟨fun u hu s hs=>zfb.2 ?_⟩⟩;rw[h3];exact h6 s (qbR.2 ⟨u.tags,qaL.2 ⟨u,hu,rfl⟩,hs⟩)
theorem zxr{i:Int}{v:List Str}{a:Lv}{u:Equ}:(equS p seen i v l a u).1.own=a.own:=by
 show(zag (zdm (v++a.own) l) a u.left).1.own=a.own
 have key:∀(w:List Str) (L:List Str) (b:Lv),(zag (zdm w l) b L).1.own=b.own:=by
  intro w L
  induction L with
  | nil=>intro b;rfl
  | cons x L ih=>
    intro b;rw[zag];split
    ·rw[ih];rfl
    ·rfl
 exact key _ _ _
theorem zsi{s:Str}(h:x∈ins l s):x∈l\/x=s:=by
 unfold ins at h;split at h
 ·exact .inl h
 ·rw[qbe,qbl]at h;exact h
end Go.Proofs.YtdicfgideclbdaaGreatDoor
