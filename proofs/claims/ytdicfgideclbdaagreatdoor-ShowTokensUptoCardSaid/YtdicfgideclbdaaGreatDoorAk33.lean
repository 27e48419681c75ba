import Derived.Test.YtdicfgideclbdaaGreatDoorRows
import Derived.Test.YtdicfgideclbdaaGreatDoorCards
import Derived.Test.YtdicfgideclbdaaGreatDoorTie
import Derived.Deep.DeepHandedRow
import Derived.Lib.LaidTab
import Derived.Stop.LaidErr
import Derived.Test.YtdicfgideclbdaaGreatDoorAk18
set_option maxHeartbeats 64000000
set_option linter.all false
namespace Go.Proofs.YtdicfgideclbdaaGreatDoor
open Go Go.TL
variable {ts ys:List T}{P:Program}{H:Type}
theorem ty_i{n:Nat}{d:DataW H}(h:TyD Tryz.prog n 3 d ts):∃i:I64,ts=[T.n i]:=by
 cases n with
 | zero=>exact h.elim
 | succ n=>
   simp only[TyD,Tryz.underlying3]at h;obtain⟨i,rfl,rfl,hw⟩:=h
   have h2:-9223372036854775808≤i/\i≤9223372036854775807:=by
    simpa [Lit.wf,IntKind.min,IntKind.max,IntKind.signed,IntKind.bits]using hw
   exact⟨⟨i,h2⟩,rfl⟩
theorem ty_s{n:Nat}{d:DataW H}(h:TyD Tryz.prog n 9 d ts):∃l:Str,ts=[T.s l]:=by
 cases n with
 | zero=>exact h.elim
 | succ n=>
   simp only[TyD,Tryz.underlying9]at h;obtain⟨l,_,h2,_⟩:=h;exact⟨l,h2⟩
theorem ty_b{n:Nat}{d:DataW H}(h:TyD Tryz.prog n 4 d ts):∃b:Bool,ts=[T.b b]:=by
 cases n with
 | zero=>exact h.elim
 | succ n=>
   simp only[TyD,Tryz.underlying4]at h;obtain⟨b,_,h2⟩:=h;exact⟨b,h2⟩
theorem zeq{α:Type}(f:α->T){n sz:Nat}{t e:TypeId}(hu:Tryz.prog.underlying t=some (.slice e))(hs:Tryz.prog.cellsOf e=sz){d:DataW H}(h:TyD Tryz.prog n t d ts)
  (dec:∀m,m<n->∀(d:DataW H) ts,TyD Tryz.prog m e d ts->∃a:α,mkT (aggB Tryz.prog e) ts=f a):∃l:List α,ts=[.sl sz (l.map f)]:=by
 cases n with
 | zero=>exact h.elim
 | succ n=>
   simp only[TyD,hu]at h;obtain⟨els,sp,es,_,hy,hl,hm,he⟩:=h
   have key:∀(es:List T) (els:List (DataW H)),es.length=els.length->(∀(i:Nat) x y,els[i]?=some x->es[i]?=some y->y=mkT (aggB Tryz.prog e) y.cells/\TyD Tryz.prog n e x y.cells)->∃l:List α,es=l.map f:=by
    intro es
    induction es with
    | nil=>intro els _ _;exact⟨[],rfl⟩
    | cons y es ih=>
      intro els hl he;cases els with
      | nil=>simp at hl
      | cons x els=>
        obtain⟨l,hl1⟩:=ih els (by simpa using hl) (fun i x y hx hy=>he (i+1) x y (by simpa using hx) (by simpa using hy));obtain⟨g1,g2⟩:=he 0 x y rfl rfl;obtain⟨a,g3⟩:=dec n (qbF n) x y.cells g2;exact⟨a::l,by rw[hl1,g1,g3];rfl⟩
   obtain⟨l,rfl⟩:=key es els hl he;exact⟨l,by rw[hy,hs]⟩
theorem zoE:Tryz.prog.cellsOf 3=1:=oD
theorem zjo:Tryz.prog.cellsOf 9=1:=oD
theorem zvy:Tryz.prog.cellsOf 47=1:=oD
theorem zub:Tryz.prog.cellsOf 52=6:=oD
theorem zrc:aggB Tryz.prog 52=true:=by unfold aggB;rw[Tryz.underlying52]
theorem zvj:∀(n m:Nat),m≤n->∀(d:DataW H) (ts:List T),TyD Tryz.prog m 52 d ts->∃e:Ex,ts=exC e:=by
 intro n
 induction n with
 | zero=>intro m hm d ts h;have:m=0:=by omega
         subst this;exact h.elim
 | succ n ih=>
   intro m hm d ts h;cases m with
   | zero=>exact h.elim
   | succ m=>
     simp only[TyD,Tryz.underlying52]at h;obtain⟨xs,rfl,hl,hx,hf⟩:=h;rw[zub]at hl
     match xs,hx,ts,hl with
     | [x0,x1,x2,x3,x4,x5],_,[a,b,c,e,g,i],_=>
       have f0:TyD Tryz.prog m 3 x0 (([a,b,c,e,g,i].drop 0).take (Tryz.prog.cellsOf 3)):=hf 0 _ x0 rfl rfl;have f1:TyD Tryz.prog m 3 x1 (([a,b,c,e,g,i].drop 1).take (Tryz.prog.cellsOf 3)):=hf 1 _ x1 rfl rfl;have f2:TyD Tryz.prog m 3 x2 (([a,b,c,e,g,i].drop 2).take (Tryz.prog.cellsOf 3)):=hf 2 _ x2 rfl rfl;have f3:TyD Tryz.prog m 3 x3 (([a,b,c,e,g,i].drop 3).take (Tryz.prog.cellsOf 3)):=hf 3 _ x3 rfl rfl;have f4:TyD Tryz.prog m 9 x4 (([a,b,c,e,g,i].drop 4).take (Tryz.prog.cellsOf 9)):=hf 4 _ x4 rfl rfl;have f5:TyD Tryz.prog m 47 x5 (([a,b,c,e,g,i].drop 5).take (Tryz.prog.cellsOf 47)):=hf 5 _ x5 rfl rfl;simp only[zoE,zjo,zvy,qbj,qbq,qaO,qbr]at f0 f1 f2 f3 f4 f5;obtain⟨i0,e0⟩:=ty_i f0;obtain⟨i1,e1⟩:=ty_i f1;obtain⟨i2,e2⟩:=ty_i f2;obtain⟨i3,e3⟩:=ty_i f3;obtain⟨s4,e4⟩:=ty_s f4
       obtain⟨l,e5⟩:=zeq exT Tryz.underlying47 zub f5 (fun k hk d ts ht=>by
        obtain⟨a,ha⟩:=ih k oA d ts ht;exact⟨a,by rw[zrc,ha,zan];rfl⟩)
       simp only[qbd,and_true]at e0 e1 e2 e3 e4 e5;subst e0 e1 e2 e3 e4 e5;exact⟨.mk i0 i1 i2 i3 s4 l,rfl⟩
theorem zxc:Tryz.prog.cellsOf 4=1:=oD
theorem zrd:aggB Tryz.prog 9=false:=by unfold aggB;rw[Tryz.underlying9]
theorem zyS:Tryz.prog.cellsOf 50=1:=oD
theorem zyR:Tryz.prog.cellsOf 41=1:=oD
theorem zvI:Tryz.prog.cellsOf 60=3:=oD
theorem zyH:aggB Tryz.prog 60=true:=by unfold aggB;rw[Tryz.underlying60]
theorem zoD:Tryz.prog.cellsOf 44=1:=oD
theorem zfQ:Tryz.prog.cellsOf 43=3:=oD
theorem zhq:aggB Tryz.prog 43=true:=by unfold aggB;rw[Tryz.underlying43]
theorem zvx:Tryz.prog.cellsOf 45=1:=oD
theorem zrH:Tryz.prog.cellsOf 55=7:=oD
theorem zrb:aggB Tryz.prog 55=true:=by unfold aggB;rw[Tryz.underlying55]
theorem zua:Tryz.prog.cellsOf 165=1:=oD
theorem zkf:Tryz.prog.cellsOf 212=8:=oD
theorem zon:aggB Tryz.prog 212=true:=by unfold aggB;rw[Tryz.underlying212]
theorem zoC:Tryz.prog.cellsOf 46=1:=oD
theorem zke:Tryz.prog.cellsOf 160=1:=oD
theorem zom:aggB Tryz.prog 160=true:=by unfold aggB;rw[Tryz.underlying160]
theorem zrw:Tryz.prog.cellsOf 158=1:=oD
theorem zlD:Tryz.prog.cellsOf 167=6:=oD
theorem zw7:aggB Tryz.prog 167=true:=by unfold aggB;rw[Tryz.underlying167]
theorem zt9:Tryz.prog.cellsOf 23=1:=oD
theorem zoL:Tryz.prog.cellsOf 49=8:=oD
theorem zw6:aggB Tryz.prog 49=true:=by unfold aggB;rw[Tryz.underlying49]
theorem zyQ:Tryz.prog.cellsOf 22=1:=oD
theorem zvG:Tryz.prog.cellsOf 96=2:=oD
theorem zyG:aggB Tryz.prog 96=true:=by unfold aggB;rw[Tryz.underlying96]
theorem zy2:Tryz.prog.cellsOf 9=1:=oD
theorem zvH:Tryz.prog.cellsOf 52=6:=oD
theorem zBn{n:Nat}{d:DataW H}(h:TyD Tryz.prog n 60 d ts):∃o:OnC,ts=[.s o.name,T.n o.t,T.n o.tag]:=by
 cases n with
 | zero=>exact h.elim
 | succ m=>
   simp only[TyD,Tryz.underlying60]at h;obtain⟨xs,rfl,hl,hx,hf⟩:=h;rw[zvI]at hl
   match xs,hx,ts,hl with
   | [x0,x1,x2],_,[a,b,c],_=>
     have f0:TyD Tryz.prog m 9 x0 (([a,b,c].drop 0).take (Tryz.prog.cellsOf 9)):=hf 0 _ x0 rfl rfl;have f1:TyD Tryz.prog m 3 x1 (([a,b,c].drop 1).take (Tryz.prog.cellsOf 3)):=hf 1 _ x1 rfl rfl;have f2:TyD Tryz.prog m 3 x2 (([a,b,c].drop 2).take (Tryz.prog.cellsOf 3)):=hf 2 _ x2 rfl rfl;simp only[zoE,zjo,qbj,qbq,qaO,qbr]at f0 f1 f2;obtain⟨v0,e0⟩:=ty_s f0;obtain⟨v1,e1⟩:=ty_i f1;obtain⟨v2,e2⟩:=ty_i f2;simp only[qbd,and_true]at e0 e1 e2;refine⟨⟨v0,v1,v2⟩,?_⟩
     simp_all
     try rfl
theorem zk8{n:Nat}{d:DataW H}(h:TyD Tryz.prog n 43 d ts):∃o:Decl,ts=[.s o.name,T.n o.ty,.sl 3 (o.clock.map onT)]:=by
 cases n with
 | zero=>exact h.elim
 | succ m=>
   simp only[TyD,Tryz.underlying43]at h;obtain⟨xs,rfl,hl,hx,hf⟩:=h;rw[zfQ]at hl
   match xs,hx,ts,hl with
   | [x0,x1,x2],_,[a,b,c],_=>
     have f0:TyD Tryz.prog m 9 x0 (([a,b,c].drop 0).take (Tryz.prog.cellsOf 9)):=hf 0 _ x0 rfl rfl;have f1:TyD Tryz.prog m 3 x1 (([a,b,c].drop 1).take (Tryz.prog.cellsOf 3)):=hf 1 _ x1 rfl rfl;have f2:TyD Tryz.prog m 41 x2 (([a,b,c].drop 2).take (Tryz.prog.cellsOf 41)):=hf 2 _ x2 rfl rfl;simp only[zoE,zyR,zjo,qbj,qbq,qaO,qbr]at f0 f1 f2;obtain⟨v0,e0⟩:=ty_s f0;obtain⟨v1,e1⟩:=ty_i f1
     obtain⟨v2,e2⟩:=zeq onT Tryz.underlying41 zvI f2 (fun k hk d ts ht=>by
      obtain⟨u,hu⟩:=zBn ht;exact⟨u,by rw[zyH];first|exact hu|(rw[hu];rfl)⟩)
     simp only[qbd,and_true]at e0 e1 e2;refine⟨⟨v0,v1,v2⟩,?_⟩
     simp_all
     try rfl
theorem zwT{n:Nat}{d:DataW H}(h:TyD Tryz.prog n 55 d ts):∃o:Equ,mkT true ts=equT o:=by
 cases n with
 | zero=>exact h.elim
 | succ m=>
   simp only[TyD,Tryz.underlying55]at h;obtain⟨xs,rfl,hl,hx,hf⟩:=h;rw[zrH]at hl
   match xs,hx,ts,hl with
   | [x0,x1],_,[a,b,c,e,g,i,j],_=>
     have f0:TyD Tryz.prog m 50 x0 (([a,b,c,e,g,i,j].drop 0).take (Tryz.prog.cellsOf 50)):=hf 0 _ x0 rfl rfl;have f1:TyD Tryz.prog m 52 x1 (([a,b,c,e,g,i,j].drop 1).take (Tryz.prog.cellsOf 52)):=hf 1 _ x1 rfl rfl;simp only[zyS,zub,qbj,qbq,qaO,qbr]at f0 f1
     obtain⟨v0,e0⟩:=zeq T.s Tryz.underlying50 zy2 f0 (fun k hk d ts ht=>by
      obtain⟨u,hu⟩:=ty_s ht;exact⟨u,by rw[zrd,hu];rfl⟩)
     obtain⟨v1,e1⟩:=zvj m m (qag _) _ _ f1;unfold exC at e1;simp only[qbd,and_true]at e0 e1;refine⟨⟨v0,v1⟩,?_⟩
     simp_all
     try rfl
theorem ztL{n:Nat}{d:DataW H}(h:TyD Tryz.prog n 212 d ts):∃o:Tran,mkT true ts=zaA o:=by
 cases n with
 | zero=>exact h.elim
 | succ m=>
   simp only[TyD,Tryz.underlying212]at h;obtain⟨xs,rfl,hl,hx,hf⟩:=h;rw[zkf]at hl
   match xs,hx,ts,hl with
   | [x0,x1,x2],_,[a,b,c,e,g,i,j,k],_=>
     have f0:TyD Tryz.prog m 52 x0 (([a,b,c,e,g,i,j,k].drop 0).take (Tryz.prog.cellsOf 52)):=hf 0 _ x0 rfl rfl;have f1:TyD Tryz.prog m 3 x1 (([a,b,c,e,g,i,j,k].drop 6).take (Tryz.prog.cellsOf 3)):=hf 1 _ x1 rfl rfl;have f2:TyD Tryz.prog m 4 x2 (([a,b,c,e,g,i,j,k].drop 7).take (Tryz.prog.cellsOf 4)):=hf 2 _ x2 rfl rfl;simp only[zxc,zoE,zub,qbj,qbq,qaO,qbr]at f0 f1 f2;obtain⟨v0,e0⟩:=zvj m m (qag _) _ _ f0;obtain⟨v1,e1⟩:=ty_i f1;obtain⟨v2,e2⟩:=ty_b f2;unfold exC at e0;simp only[qbd,and_true]at e0 e1 e2;refine⟨⟨v0,v1,v2⟩,?_⟩
     simp_all
     try rfl
theorem zBl{n:Nat}{d:DataW H}(h:TyD Tryz.prog n 96 d ts):∃o:En,mkT true ts=enT o:=by
 cases n with
 | zero=>exact h.elim
 | succ m=>
   simp only[TyD,Tryz.underlying96]at h;obtain⟨xs,rfl,hl,hx,hf⟩:=h;rw[zvG]at hl
   match xs,hx,ts,hl with
   | [x0,x1],_,[a,b],_=>
     have f0:TyD Tryz.prog m 9 x0 (([a,b].drop 0).take (Tryz.prog.cellsOf 9)):=hf 0 _ x0 rfl rfl;have f1:TyD Tryz.prog m 50 x1 (([a,b].drop 1).take (Tryz.prog.cellsOf 50)):=hf 1 _ x1 rfl rfl;simp only[zyS,zjo,qbj,qbq,qaO,qbr]at f0 f1;obtain⟨v0,e0⟩:=ty_s f0
     obtain⟨v1,e1⟩:=zeq T.s Tryz.underlying50 zy2 f1 (fun k hk d ts ht=>by
      obtain⟨u,hu⟩:=ty_s ht;exact⟨u,by rw[zrd,hu];rfl⟩)
     simp only[qbd,and_true]at e0 e1;refine⟨⟨v0,v1⟩,?_⟩
     simp_all
     try rfl
theorem zxj:Tryz.prog.cellsOf 25=2:=oD
theorem zt1:aggB Tryz.prog 25=true:=by unfold aggB;rw[Tryz.underlying25]
theorem zAj{n:Nat}(rec:∀j,j<n->∀(d:DataW H) ts,TyD Tryz.prog j 160 d ts->∃o:Auto,mkT true ts=zam o){d:DataW H}(h:TyD Tryz.prog n 167 d ts):∃o:Sta,mkT true ts=staT o:=by
 cases n with
 | zero=>exact h.elim
 | succ m=>
   simp only[TyD,Tryz.underlying167]at h;obtain⟨xs,rfl,hl,hx,hf⟩:=h;rw[zlD]at hl
   match xs,hx,ts,hl with
   | [x0,x1,x2,x3,x4,x5],_,[a,b,c,e,g,i],_=>
     have f0:TyD Tryz.prog m 9 x0 (([a,b,c,e,g,i].drop 0).take (Tryz.prog.cellsOf 9)):=hf 0 _ x0 rfl rfl;have f1:TyD Tryz.prog m 44 x1 (([a,b,c,e,g,i].drop 1).take (Tryz.prog.cellsOf 44)):=hf 1 _ x1 rfl rfl;have f2:TyD Tryz.prog m 45 x2 (([a,b,c,e,g,i].drop 2).take (Tryz.prog.cellsOf 45)):=hf 2 _ x2 rfl rfl;have f3:TyD Tryz.prog m 46 x3 (([a,b,c,e,g,i].drop 3).take (Tryz.prog.cellsOf 46)):=hf 3 _ x3 rfl rfl;have f4:TyD Tryz.prog m 165 x4 (([a,b,c,e,g,i].drop 4).take (Tryz.prog.cellsOf 165)):=hf 4 _ x4 rfl rfl;have f5:TyD Tryz.prog m 165 x5 (([a,b,c,e,g,i].drop 5).take (Tryz.prog.cellsOf 165)):=hf 5 _ x5 rfl rfl;simp only[zoC,zoD,zvx,zjo,zua,qbj,qbq,qaO,qbr]at f0 f1 f2 f3 f4 f5;obtain⟨v0,e0⟩:=ty_s f0
     obtain⟨v1,e1⟩:=zeq zak Tryz.underlying44 zfQ f1 (fun k hk d ts ht=>by
      obtain⟨u,hu⟩:=zk8 ht;exact⟨u,by rw[zhq];first|exact hu|(rw[hu];rfl)⟩)
     obtain⟨v2,e2⟩:=zeq equT Tryz.underlying45 zrH f2 (fun k hk d ts ht=>by
      obtain⟨u,hu⟩:=zwT ht;exact⟨u,by rw[zrb];first|exact hu|(rw[hu];rfl)⟩)
     obtain⟨v3,e3⟩:=zeq zam Tryz.underlying46 zke f3 (fun k hk d ts ht=>by
      obtain⟨u,hu⟩:=rec k oA d ts ht;exact⟨u,by rw[zom];first|exact hu|(rw[hu];rfl)⟩)
     obtain⟨v4,e4⟩:=zeq zaA Tryz.underlying165 zkf f4 (fun k hk d ts ht=>by
      obtain⟨u,hu⟩:=ztL ht;exact⟨u,by rw[zon];first|exact hu|(rw[hu];rfl)⟩)
     obtain⟨v5,e5⟩:=zeq zaA Tryz.underlying165 zkf f5 (fun k hk d ts ht=>by
      obtain⟨u,hu⟩:=ztL ht;exact⟨u,by rw[zon];first|exact hu|(rw[hu];rfl)⟩)
     simp only[qbd,and_true]at e0 e1 e2 e3 e4 e5;subst e0 e1 e2 e3 e4 e5;refine⟨.mk v0 v1 v2 v3 v4 v5,?_⟩;rw[zmC];unfold staC
     rfl
theorem zyp:∀(n m:Nat),m≤n->∀(d:DataW H) (ts:List T),TyD Tryz.prog m 160 d ts->∃o:Auto,mkT true ts=zam o:=by
 intro n
 induction n with
 | zero=>intro m hm d ts h;have:m=0:=by omega
         subst this;exact h.elim
 | succ n ih=>
   intro m hm d ts h;cases m with
   | zero=>exact h.elim
   | succ m=>
     simp only[TyD,Tryz.underlying160]at h;obtain⟨xs,rfl,hl,hx,hf⟩:=h;rw[zke]at hl
     match xs,hx,ts,hl with
     | [x0],_,[a],_=>
       have f0:TyD Tryz.prog m 158 x0 (([a].drop 0).take (Tryz.prog.cellsOf 158)):=hf 0 _ x0 rfl rfl;simp only[zrw,qbj,qaO,qbr]at f0
       obtain⟨v0,e0⟩:=zeq staT Tryz.underlying158 zlD f0 (fun k hk d ts ht=>by
        obtain⟨u,hu⟩:=zAj (fun j hj d ts h=>ih j (by omega) d ts h) ht;exact⟨u,by rw[zw7];exact hu⟩)
       simp only[qbd,and_true]at e0;subst e0;refine⟨.mk v0,?_⟩;rw[znb];rfl
theorem zAi{n:Nat}{d:DataW H}(h:TyD Tryz.prog n 49 d ts):∃o:Nod,mkT true ts=nodT o:=by
 cases n with
 | zero=>exact h.elim
 | succ m=>
   simp only[TyD,Tryz.underlying49]at h;obtain⟨xs,rfl,hl,hx,hf⟩:=h;rw[zoL]at hl
   match xs,hx,ts,hl with
   | [x0,x1,x2,x3,x4,x5,x6,x7],_,[a,b,c,e,g,i,j,k],_=>
     have f0:TyD Tryz.prog m 9 x0 (([a,b,c,e,g,i,j,k].drop 0).take (Tryz.prog.cellsOf 9)):=hf 0 _ x0 rfl rfl;have f1:TyD Tryz.prog m 44 x1 (([a,b,c,e,g,i,j,k].drop 1).take (Tryz.prog.cellsOf 44)):=hf 1 _ x1 rfl rfl;have f2:TyD Tryz.prog m 44 x2 (([a,b,c,e,g,i,j,k].drop 2).take (Tryz.prog.cellsOf 44)):=hf 2 _ x2 rfl rfl;have f3:TyD Tryz.prog m 44 x3 (([a,b,c,e,g,i,j,k].drop 3).take (Tryz.prog.cellsOf 44)):=hf 3 _ x3 rfl rfl;have f4:TyD Tryz.prog m 45 x4 (([a,b,c,e,g,i,j,k].drop 4).take (Tryz.prog.cellsOf 45)):=hf 4 _ x4 rfl rfl;have f5:TyD Tryz.prog m 46 x5 (([a,b,c,e,g,i,j,k].drop 5).take (Tryz.prog.cellsOf 46)):=hf 5 _ x5 rfl rfl;have f6:TyD Tryz.prog m 47 x6 (([a,b,c,e,g,i,j,k].drop 6).take (Tryz.prog.cellsOf 47)):=hf 6 _ x6 rfl rfl;have f7:TyD Tryz.prog m 47 x7 (([a,b,c,e,g,i,j,k].drop 7).take (Tryz.prog.cellsOf 47)):=hf 7 _ x7 rfl rfl;simp only[zoC,zoD,zvx,zvy,zjo,qbj,qbq,qaO,qbr]at f0 f1 f2 f3 f4 f5 f6 f7;obtain⟨v0,e0⟩:=ty_s f0
     obtain⟨v1,e1⟩:=zeq zak Tryz.underlying44 zfQ f1 (fun k hk d ts ht=>by
      obtain⟨u,hu⟩:=zk8 ht;exact⟨u,by rw[zhq];first|exact hu|(rw[hu];rfl)⟩)
     obtain⟨v2,e2⟩:=zeq zak Tryz.underlying44 zfQ f2 (fun k hk d ts ht=>by
      obtain⟨u,hu⟩:=zk8 ht;exact⟨u,by rw[zhq];first|exact hu|(rw[hu];rfl)⟩)
     obtain⟨v3,e3⟩:=zeq zak Tryz.underlying44 zfQ f3 (fun k hk d ts ht=>by
      obtain⟨u,hu⟩:=zk8 ht;exact⟨u,by rw[zhq];first|exact hu|(rw[hu];rfl)⟩)
     obtain⟨v4,e4⟩:=zeq equT Tryz.underlying45 zrH f4 (fun k hk d ts ht=>by
      obtain⟨u,hu⟩:=zwT ht;exact⟨u,by rw[zrb];first|exact hu|(rw[hu];rfl)⟩)
     obtain⟨v5,e5⟩:=zeq zam Tryz.underlying46 zke f5 (fun k hk d ts ht=>by
      obtain⟨u,hu⟩:=zyp k k (qag _) d ts ht;exact⟨u,by rw[zom];first|exact hu|(rw[hu];rfl)⟩)
     obtain⟨v6,e6⟩:=zeq exT Tryz.underlying47 zvH f6 (fun k hk d ts ht=>by
      obtain⟨u,hu⟩:=zvj k k (qag _) _ _ ht;exact⟨u,by rw[zrc,hu,zan];rfl⟩)
     obtain⟨v7,e7⟩:=zeq exT Tryz.underlying47 zvH f7 (fun k hk d ts ht=>by
      obtain⟨u,hu⟩:=zvj k k (qag _) _ _ ht;exact⟨u,by rw[zrc,hu,zan];rfl⟩)
     simp only[qbd,and_true]at e0 e1 e2 e3 e4 e5 e6 e7;subst e0 e1 e2 e3 e4 e5 e6 e7;refine⟨⟨v0,v1,v2,v3,v4,v5,v6,v7⟩,?_⟩
     skip
     rfl
theorem zyq{n:Nat}{d:DataW H}(h:TyD Tryz.prog n 25 d ts):∃o:Prog,mkT true ts= .ag (zbr o):=by
 cases n with
 | zero=>exact h.elim
 | succ m=>
   simp only[TyD,Tryz.underlying25]at h;obtain⟨xs,rfl,hl,hx,hf⟩:=h;rw[zxj]at hl
   match xs,hx,ts,hl with
   | [x0,x1],_,[a,b],_=>
     have f0:TyD Tryz.prog m 22 x0 (([a,b].drop 0).take (Tryz.prog.cellsOf 22)):=hf 0 _ x0 rfl rfl;have f1:TyD Tryz.prog m 23 x1 (([a,b].drop 1).take (Tryz.prog.cellsOf 23)):=hf 1 _ x1 rfl rfl;simp only[zyQ,zt9,qbj,qbq,qaO,qbr]at f0 f1
     obtain⟨v0,e0⟩:=zeq enT Tryz.underlying22 zvG f0 (fun k hk d ts ht=>by
      obtain⟨u,hu⟩:=zBl ht;exact⟨u,by rw[zyG];first|exact hu|(rw[hu];rfl)⟩)
     obtain⟨v1,e1⟩:=zeq nodT Tryz.underlying23 zoL f1 (fun k hk d ts ht=>by
      obtain⟨u,hu⟩:=zAi ht;exact⟨u,by rw[zw6];first|exact hu|(rw[hu];rfl)⟩)
     simp only[qbd,and_true]at e0 e1;subst e0 e1;refine⟨⟨v0,v1⟩,?_⟩
     skip
     rfl
def zmM(P:Program):Nat->List Field->Nat->Bool
 | o,[],e=>Nat.beq o e
 | o,g::gs,e=>Nat.beq g.offset o && zmM P (o+P.cellsOf g.type) gs e
def ztx(P:Program)(t:TypeId):Bool:=match P.underlying t with
 | some (.struct fs)=>zmM P 0 fs.toList (P.cellsOf t)
 | _=>true
theorem zmN{P:Program}:∀(gs:List Field) (xs:List (DataW H)) (o e:Nat) (ts:List T),gs.length=xs.length->zmM P o gs e=true->ts.length=e->
  (∀(j:Nat) g x,gs[j]?=some g->xs[j]?=some x->((((ts.drop g.offset).take (P.cellsOf g.type)).map T.w).sum+1≤2*Rows.uptoBulk x))->((ts.drop o).map T.w).sum≤2*Rows.uptoBulkAll xs
 | [],[],o,e,ts,_,ht,hl,_=>by
   simp[zmM]at ht;rw[qa2 oA];simp
 | g::gs,x::xs,o,e,ts,hlen,ht,hl,h=>by
   simp only[zmM,qar,Nat.beq_eq]at ht;obtain⟨h1,h2⟩:=ht;have ih:=zmN gs xs (o+P.cellsOf g.type) e ts (by simpa using hlen) h2 hl (fun j g x hg hx=>h (j+1) g x (by simpa using hg) (by simpa using hx));have h0:=h 0 g x rfl rfl;rw[h1]at h0
   have hs:ts.drop o=(ts.drop o).take (P.cellsOf g.type)++ts.drop (o+P.cellsOf g.type):=by
    rw[<-qbX,qaX]
   rw[hs,qaw,qct];simp only[Rows.uptoBulkAll];omega
 | [],_::_,_,_,_,hlen,_,_,_=>by simp at hlen
 | _::_,[],_,_,_,hlen,_,_,_=>by simp at hlen
theorem zyo{P:Program}{l:List TypeId}(hP:zb6 P l=true)(hT:∀t∈l,ztx P t=true):∀(n:Nat) (t:TypeId),t∈l->∀(d:DataW H) (ts:List T),TyD P n t d ts->(ts.map T.w).sum+1≤2*Rows.uptoBulk d
 | 0,_,_,_,_,h=>h.elim
 | n+1,t,htl,d,ts,h=>by
   unfold TyD at h;have ht:=hT t htl;have hcl:=qaB.1 hP t htl;unfold ztx at ht;split at h
   ·obtain⟨b,rfl,rfl⟩:=h;simp[Rows.uptoBulk,T.w,strW]
   ·obtain⟨i,rfl,rfl,_⟩:=h;simp[Rows.uptoBulk,T.w,strW]
   ·obtain⟨l,rfl,rfl,_⟩:=h
    have:(T.v (str l)).w=1+l.length:=w_s l
    simp only[qaf,qaD,qaG,qa9,Rows.uptoBulk];omega
   ·rename_i e hu;have hel:e∈l:=by rw[hu]at hcl;simp at hcl;exact hcl.1.2
    obtain⟨els,sp,es,hd,rfl,hl,_,he⟩:=h
    have key:∀(es:List T) (els:List (DataW H)),es.length=els.length->(∀(i:Nat) x y,els[i]?=some x->es[i]?=some y->y=mkT (aggB P e) y.cells/\TyD P n e x y.cells)->(es.map T.w).sum≤2*Rows.uptoBulkAll els:=by
     intro es
     induction es with
     | nil=>intro els hl _;simp
     | cons y es ih=>
       intro els hl he;cases els with
       | nil=>simp at hl
       | cons x els=>
         have h1:=ih els (by simpa using hl) (fun i x y hx hy=>he (i+1) x y (by simpa using hx) (by simpa using hy));obtain⟨g1,g2⟩:=he 0 x y rfl rfl;have h2:=zyo hP hT n e hel x y.cells g2
         have h3:y.w≤(y.cells.map T.w).sum+1:=by
          cases y with
          | ag cs=>rw[w_ag];simp[T.cells];omega
          | v x=>simp[T.cells]
          | sl sz es=>simp[T.cells]
         simp only[qaf,qaG,Rows.uptoBulkAll];omega
    have hk:=key es els hl he;have hw:((T.sl (P.cellsOf e) es).w)=1+(es.map T.w).sum:=w_sl _ _;simp only[qaf,qaD,qaG,qa9];rcases hd with ⟨rfl,rfl⟩|rfl
    ·simp[Rows.uptoBulkAll]at hk;simp only[Rows.uptoBulk];omega
    ·simp only[Rows.uptoBulk];omega
   ·rename_i fs hu;obtain⟨xs,rfl,hl,hx,hf⟩:=h;rw[hu]at ht
    have:=zmN fs.toList xs 0 (P.cellsOf t) ts (by simpa using hx.symm) ht hl (fun j g x hg hx=>zyo hP hT n g.type (by rw[hu]at hcl;exact qbZ.1 (qaB.1 hcl g (qau hg))) x _ (hf j g x (by simpa using hg) hx))
    simp only[qbj]at this;simp only[Rows.uptoBulk];omega
   ·exact h.elim
def zx0:List TypeId:=[25,22,96,23,49,44,43,41,60,45,55,47,52,46,160,158,167,165,212,50,9,3,4,5]
theorem zwC:zb6 Tryz.prog zx0=true:=oD
theorem zAc:∀t∈zx0,ztx Tryz.prog t=true:=qaB.1 oD
theorem zr3{t:TypeId}{ts:List TypeId}{ds:List (DataW H)}(h:Fits P (t::ts) ds ys):∃d ds' y ys',ds=d::ds'/\ys=y::ys'/\(y=mkT (aggB P t) y.cells/\∃n,TyD P n t d y.cells)/\Fits P ts ds' ys':=by
 cases ds with
 | nil=>cases ys <;> exact h.elim
 | cons d ds=>cases ys with
   | nil=>exact h.elim
   | cons y ys=>exact⟨d,ds,y,ys,rfl,rfl,h.1,h.2⟩
theorem zut{ds:List (DataW H)}(h:Fits P [] ds ys):ds=[]/\ys=[]:=by
 cases ds <;> cases ys <;> first|exact⟨rfl,rfl⟩|exact h.elim
theorem zrv(d:DataW H)(ds:List (DataW H)):Rows.uptoBulkAll (d::ds)=Rows.uptoBulk d+Rows.uptoBulkAll ds:=by simp[Rows.uptoBulkAll]
theorem zx1{d:DataW H}{y:T}(h:y=mkT (aggB Tryz.prog 25) y.cells/\∃n,TyD Tryz.prog n 25 d y.cells):∃p:Prog,y= .ag (zbr p)/\(T.ag (zbr p)).w≤2*Rows.uptoBulk d:=by
 obtain⟨h1,n,h2⟩:=h;obtain⟨p,hp⟩:=zyq h2;rw[zt1,hp]at h1
 have:=zyo zwC zAc n _ (by decide +kernel) d y.cells h2
 refine⟨p,h1,?_⟩;have hc:y.cells=zbr p:=by rw[h1];rfl
 rw[hc]at this;rw[w_ag];omega
abbrev zzr:List (String×DataW Unit):=[("math/bits.deBruijn32tab",Rows.laid_math_bits_deBruijn32tab),("math/bits.deBruijn64tab",Rows.laid_math_bits_deBruijn64tab),("internal/strconv.uint64pow10",Rows.laid_internal_strconv_uint64pow10)]
def powL:List Int:=[1,10,100,1000,10000,100000,1000000,10000000,100000000,1000000000,10000000000,100000000000,1000000000000,10000000000000,100000000000000,1000000000000000,10000000000000000,100000000000000000,1000000000000000000,10000000000000000000]
theorem zsc{W:World}(h:laidMetH Tryz.prog zzr W):Glob (fun b _=>b<W.heap.size) W:=by
 have h1:laidMet Tryz.prog zzr W:=h;have h2:laidMet Tryz.prog [("internal/strconv.uint64pow10",Lib.tabData .u64 powL)] W:=laidMet.tail (laidMet.tail h1);have h3:Lib.TabIs Tryz.prog W "internal/strconv.uint64pow10" .u64 powL:=Lib.tabIs_of_head (g:=gPow) (t:=294) (e:=233) (n:=20) oD oD Tryz.underlying294 Tryz.underlying233 oD oD h2;unfold Lib.TabIs World.var? at h3;rw[show Tryz.prog.globalNamed "internal/strconv.uint64pow10"=some gPow by kernel_rfl]at h3;simp only[Option.bind_some]at h3;intro b cs hb;obtain⟨rfl,rfl⟩:=zxz hb;cases hq:W.heap[gPow]? with
 | none=>rw[hq]at h3;cases h3
 | some o=>
   rw[hq]at h3;cases o with
   | cells c e f=>
     simp only[qaI]at h3;refine⟨fun _=>?_,e,f,?_⟩
     ·exact(qam.1 hq).1
     ·rw[h3];rfl
   | _=>cases h3
def litV:DataW Unit->Value
 | .lit (.int k z)=>.int k z
 | _=>.bool false
def tabC:DataW Unit->Array Value
 | .agg l=>(l.map litV).toArray
 | _=>#[]
def tabO(d:DataW Unit):Obj->Obj
 | .cells _ t frozen=>.cells (tabC d) t frozen
 | o=>o
noncomputable def zl5 (os:Os):World:=
 { World.holding Tryz.prog os ⟨#[],#[],[]⟩ with heap:=(((World.holding Tryz.prog os ⟨#[],#[],[]⟩).heap.modify 2 (tabO Rows.laid_math_bits_deBruijn32tab)).modify 3 (tabO Rows.laid_math_bits_deBruijn64tab)).modify gPow (tabO Rows.laid_internal_strconv_uint64pow10) }
end Go.Proofs.YtdicfgideclbdaaGreatDoor
