/- Marks on Tolerance. -/
import Derived.Test.YtnedlmlpeplnfaaGreatDelP
import Derived.Test.YtnedlmlpeplnfaaGreatData
import Derived.Test.YtnedlmlpeplnfaaGreatNames
import Derived.Deep.Upon
import Derived.Deep.AppendSrc
import Derived.Test.YtnedlmlpeplnfaaGreatSz
import Derived.Test.YtnedlmlpeplnfaaGreatToBase
namespace Go.Proofs.YtnedlmlpeplnfaaGreat
open Go.ChangeShapes Go.WideShapes Go.ChangeAt Go.RowKit
set_option linter.unusedVariables false
set_option linter.unusedSimpArgs false
set_option maxHeartbeats 2000000
set_option maxRecDepth 100000
def rC (x:bH) (k:Int):bH:={ key:=lZ (k),equal:=decide ((k+1) % 3 = 0),value:=lZ (k+1+1),effect:=(k+1+1+1) }
def bJ (x:bH):Nat:=1+1+1+1
theorem Qw (xs:List bH) (A:Option Addr) (n c:Nat) (F:List Nat) (B:Nat) (k:Int) (w:World) (h:Own w B xs [.slice A n c] F) (hn:n = xs.length) (hk0:0≤k) (hk:k+cO bJ xs≤1073741823) :
 Calls Tryz.prog 68 #[.slice A n c,.int .i64 k] w fun e w'=>e = .returned (.int .i64 (k+cO bJ xs))∧Own w' B (EX rC bJ xs k) [.slice A n c] F∧nN F w w':=by
 subst hn;have hlen:=YV h;go_enter Tryz.func68,Tryz.ntmps68;go_wp2_with fail
 go_loopw [1,5] (fun x y wr=>∃(i:Nat),i≤xs.length∧y = .int .i64 i∧x = .int .i64 (k+cO bJ (xs.take i))∧Own wr B (Jd rC bJ xs k i) [.slice A xs.length c] F∧nN F w wr) (fun _ y _=>xs.length - (intOf y).toNat)
 case atStart=>exact ⟨0,Nat.zero_le _,rfl,by simp [cO],by rw [Kr];exact h,.refl _ _⟩
 case round =>
  obtain ⟨i,hi,rfl,rfl,hO,hu⟩:=hrel;by_cases hlt:i < xs.length
  ·have hle:(cO bJ (xs.take i):Int)+bJ xs[i]≤cO bJ xs:=(by have:=lU (cnt:=bJ) hlt;have:=EG (cnt:=bJ) xs (i+1);omega);have JQ:=lU (cnt:=bJ) hlt;obtain ⟨b,o,ck,Fk,rfl,o9,hsub,hbk,LM,hE,hcl⟩:=hO.elt (k:=i) au9;rw [Oj hlt] at LM;have hRe:=LM.rd;obtain ⟨hck,su,hkey,kP,lD⟩:=jv hRe;clear hRe;subst hck su;generalize hkk:k+(cO bJ (xs.take i):Int) = kk;have aaJ:0≤kk:=O';have Ei:kk+bJ xs[i]≤1073741823:=O';simp only [bJ] at Ei;push_cast at Ei;clear hO;have q0:=hE.at_ (q:=o+i * 4) (j:=0) awo rfl;have z0:=hE.plain.frozen (o+i * 4);have q1:=hE.at_ (q:=o+i * 4+1) (j:=1) awp rfl;have z1:=hE.plain.frozen (o+i * 4+1);have q2:=hE.at_ (q:=o+i * 4+2) (j:=2) awq rfl;have z2:=hE.plain.frozen (o+i * 4+2);have q3:=hE.at_ (q:=o+i * 4+3) (j:=3) awr rfl;have z3:=hE.plain.frozen (o+i * 4+3);go_wp2_with fail
   clear q0 z0 q1 z1 q2 z2 q3 z3;refine (lW (kk) _ O' O').mono ?_;rintro e w1 ⟨rfl,hb1⟩;replace hE:=hE.ext hb1;have q0:=hE.at_ (q:=o+i * 4) (j:=0) awo rfl;have z0:=hE.plain.frozen (o+i * 4);have q1:=hE.at_ (q:=o+i * 4+1) (j:=1) awp rfl;have z1:=hE.plain.frozen (o+i * 4+1);have q2:=hE.at_ (q:=o+i * 4+2) (j:=2) awq rfl;have z2:=hE.plain.frozen (o+i * 4+2);have q3:=hE.at_ (q:=o+i * 4+3) (j:=3) awr rfl;have z3:=hE.plain.frozen (o+i * 4+3);go_wp2_with fail
   clear q0 z0 q1 z1 q2 z2 q3 z3;replace hE:=hE.set (j:=0) (q:=o+i * 4) S' awo (.string (lZ (kk)));simp only [List.set_cons_zero,List.set_cons_succ] at hE;replace hE:=hE.set (j:=1) (q:=o+i * 4+1) S' awp (.bool (decide ((kk+1) % 3 = 0)));simp only [List.set_cons_zero,List.set_cons_succ] at hE;refine (lW (kk+1+1) _ O' O').mono ?_;rintro e w2 ⟨rfl,hb2⟩;replace hE:=hE.ext hb2;have q0:=hE.at_ (q:=o+i * 4) (j:=0) awo rfl;have z0:=hE.plain.frozen (o+i * 4);have q1:=hE.at_ (q:=o+i * 4+1) (j:=1) awp rfl;have z1:=hE.plain.frozen (o+i * 4+1);have q2:=hE.at_ (q:=o+i * 4+2) (j:=2) awq rfl;have z2:=hE.plain.frozen (o+i * 4+2);have q3:=hE.at_ (q:=o+i * 4+3) (j:=3) awr rfl;have z3:=hE.plain.frozen (o+i * 4+3);go_wp2_with fail
   clear q0 z0 q1 z1 q2 z2 q3 z3;replace hE:=hE.set (j:=2) (q:=o+i * 4+2) S' awq (.string (lZ (kk+1+1)));simp only [List.set_cons_zero,List.set_cons_succ] at hE;replace hE:=hE.set (j:=3) (q:=o+i * 4+3) S' awr (.int .i64 (kk+1+1+1));simp only [List.set_cons_zero,List.set_cons_succ] at hE;have hP:=hcl _ (rC xs[i] kk) _ ⟨(by have:=(nJ (rdStr ((w2.setCell ⟨b,o+i * 4+2,none⟩ (.string (lZ (kk+1+1)))).setCell ⟨b,o+i * 4+3,none⟩ (.int .i64 (kk+1+1+1))) (lZ (kk)) (NI O')) (nJ (rdBool ((w2.setCell ⟨b,o+i * 4+2,none⟩ (.string (lZ (kk+1+1)))).setCell ⟨b,o+i * 4+3,none⟩ (.int .i64 (kk+1+1+1))) (decide ((kk+1) % 3 = 0))) (nJ (rdStr ((w2.setCell ⟨b,o+i * 4+2,none⟩ (.string (lZ (kk+1+1)))).setCell ⟨b,o+i * 4+3,none⟩ (.int .i64 (kk+1+1+1))) (lZ (kk+1+1)) (NI O')) (jL ((w2.setCell ⟨b,o+i * 4+2,none⟩ (.string (lZ (kk+1+1)))).setCell ⟨b,o+i * 4+3,none⟩ (.int .i64 (kk+1+1+1))) ((kk+1+1+1)) auG))));simp only [List.nil_append,List.append_nil,List.append_assoc,List.cons_append] at this;exact this),LM.nodup,LM.base,(by intro y hy;cases hy)⟩ hE;have hU:=hu.trans (hE.upd.mono (G:=F) (fun y hy=>by rcases List.mem_cons.1 hy with rfl | hy;exact o9;exact hsub y hy));have hset:(Jd rC bJ xs k i).set i (rC xs[i] kk) = Jd rC bJ xs k (i+1):=(by rw [← hkk];exact Ol hlt);rw [hset] at hP;refine ⟨⟨i+1,O',N',?_,hP,hU⟩,by simp [intOf];omega⟩;rw [JQ];simp only [bJ];congr 1;push_cast;omega
  ·exact Zabh
theorem Qx (xs:List bH) (A:Option Addr) (n c:Nat) (F:List Nat) (k:Int) (w:World) (h:rd w xs [.slice A n c] F) (hn:n = xs.length) (hm:EX rC bJ xs k = xs) (hk0:0≤k) (hk:k+cO bJ xs≤1073741823) :
 Calls Tryz.prog 72 #[.slice A n c,.int .i64 k] w fun e w'=>e = .returned (.int .i64 (k+cO bJ xs))∧Below w.heap.size w w':=by
 subst hn;have hlen:=ade h;have HM:=I' hm;clear hm;go_enter Tryz.func72,Tryz.ntmps72;go_wp2_with fail
 go_loopw [1,5] (fun x y wr=>∃(i:Nat),i≤xs.length∧y = .int .i64 i∧x = .int .i64 (k+cO bJ (xs.take i))∧Below w.heap.size w wr) (fun _ y _=>xs.length - (intOf y).toNat)
 case atStart=>exact ⟨0,Nat.zero_le _,rfl,by simp [cO],aj _⟩
 case round =>
  obtain ⟨i,hi,rfl,rfl,hbl⟩:=hrel;by_cases hlt:i < xs.length
  ·have hle:(cO bJ (xs.take i):Int)+bJ xs[i]≤cO bJ xs:=(by have:=lU (cnt:=bJ) hlt;have:=EG (cnt:=bJ) xs (i+1);omega);have JQ:=lU (cnt:=bJ) hlt;have hfix:=PK HM.out hlt;obtain ⟨b,o,ck,Fk,rfl,o9,hbs,hr,hsub,hc⟩:=(Sl.ext (w':=wr) (A:=A) (c:=c) h hbl).get hlt;obtain ⟨hck,su,hkey,kP,lD⟩:=jv hr;clear hr;subst hck;generalize hkk:k+(cO bJ (xs.take i):Int) = kk at hfix ⊢;have aaJ:0≤kk:=O';have Ei:kk+bJ xs[i]≤1073741823:=O';simp only [bJ] at Ei;push_cast at Ei;have e0:lZ (kk) = xs[i].key:=congrArg (fun z:bH=>z.key) hfix;have q0:wr.cell? ⟨b,o+i * 4,none⟩ = some (.string xs[i].key):=(by have:=hc 0 _ rfl;rwa [show o+(i * Dat.size bH+0) = o+i * 4 from by show o+(i * 4+0) = _;omega] at this);rw [← e0] at q0;clear e0;have e1:decide ((kk+1) % 3 = 0) = xs[i].equal:=congrArg (fun z:bH=>z.equal) hfix;have q1:wr.cell? ⟨b,o+i * 4+1,none⟩ = some (.bool xs[i].equal):=(by have:=hc 1 _ rfl;rwa [show o+(i * Dat.size bH+1) = o+i * 4+1 from by show o+(i * 4+1) = _;omega] at this);rw [← e1] at q1;clear e1;rw [show decide ((kk+1) % 3 = 0) = ((kk+1) % 3 == 0) from rfl] at q1;have e2:lZ (kk+1+1) = xs[i].value:=congrArg (fun z:bH=>z.value) hfix;have q2:wr.cell? ⟨b,o+i * 4+2,none⟩ = some (.string xs[i].value):=(by have:=hc 2 _ rfl;rwa [show o+(i * Dat.size bH+2) = o+i * 4+2 from by show o+(i * 4+2) = _;omega] at this);rw [← e2] at q2;clear e2;have e3:(kk+1+1+1) = xs[i].effect:=congrArg (fun z:bH=>z.effect) hfix;have q3:wr.cell? ⟨b,o+i * 4+3,none⟩ = some (.int .i64 xs[i].effect):=(by have:=hc 3 _ rfl;rwa [show o+(i * Dat.size bH+3) = o+i * 4+3 from by show o+(i * 4+3) = _;omega] at this);rw [← e3] at q3;clear e3;clear hc hfix;go_wp2_with fail
   refine aF wr U' U' (aj _) ?_
   repeat (first
    | (apply aG
       case hw=>rfl
       simp only [Act.put,pz])
    | (apply aH
       case hw=>rfl
       case h =>exact Zaax
       simp only [Act.put,pz]))
   refine aN ?_;intro wn1 hn1;replace hn1:=hn1.out;replace q0:=((ay hn1).1 b _ hbs).trans q0;replace q1:=((ay hn1).1 b _ hbs).trans q1;replace q2:=((ay hn1).1 b _ hbs).trans q2;replace q3:=((ay hn1).1 b _ hbs).trans q3;replace hbs:=Nat.lt_of_lt_of_le hbs hn1.size;replace hbl:=ah hbl hn1;go_wp2_with fail
   refine aF wn1 U' U' (aj _) ?_
   repeat (first
    | (apply aG
       case hw=>rfl
       simp only [Act.put,pz])
    | (apply aH
       case hw=>rfl
       case h =>
        intro wq hq;have hcq:=(aB hq).1;have lJ:=(aB hq).2;go_simp
        first
         | exact ⟨hq,rfl⟩
         | exact ⟨aQ hq _,rfl⟩
         | (refine (lW (kk+1+1) _ O' O').mono ?_;rintro e w2 ⟨rfl,hb2⟩;exact ⟨rfl,aI hq hb2⟩)
         | (simp only [↓IntWalk.iteOmega];exact ⟨hq,rfl⟩)
       simp only [Act.put,pz]))
   refine aN ?_;intro wn2 hn2;replace hn2:=hn2.out;replace q0:=((ay hn2).1 b _ hbs).trans q0;replace q1:=((ay hn2).1 b _ hbs).trans q1;replace q2:=((ay hn2).1 b _ hbs).trans q2;replace q3:=((ay hn2).1 b _ hbs).trans q3;replace hbs:=Nat.lt_of_lt_of_le hbs hn2.size;replace hbl:=ah hbl hn2;go_wp2;refine ⟨⟨i+1,O',N',?_,hbl⟩,by simp [intOf];omega⟩;rw [JQ];simp only [bJ];congr 1;push_cast;omega
  ·exact Zabs
theorem mY {w:World} {B e size n:Nat} {v:Value} {xs:List Value} (h:w.ownsRow B e size v n xs):∃A c,v = .slice A n c:=by
 rcases h.2 with ⟨rfl,hn⟩ | ⟨g,cap,cur,rfl,_⟩
 ·subst hn;exact ⟨none,0,rfl⟩
 ·exact ⟨_,_,rfl⟩
theorem EJ {w:World} {B e size n c i:Nat} {v u:Value} {xs:List Value} (h:w.ownsRow B e size v n xs) (hc:∀g,v.ownBlock = some g→g≠c):(w.setCell ⟨c,i,none⟩ u).ownsRow B e size v n xs :=
 h.kept (row:=some c) ⟨rfl,rfl,rfl,by simp [World.setCell],fun k hk hne=>Below.heap_setCell _ _ _ _ (by intro e;apply hne;rw [e])⟩ (by
   by_cases hv:v.ownBlock = some c
   ·exact absurd rfl (hc c hv)
   ·exact .inr hv)
section
variable {α:Type} [Dat α]
theorem aY.afm {w w':World} {B B5 e size n:Nat} {v v':Value} {xs:List α} {ds us cs:List Value} {F G:List Nat} {x:α} (row:w.ownsRow B e size v n us) (hcs:aY w B xs ds F) (hne:∀g,v.ownBlock = some g→g∉F)
 (hx:Own w B5 x cs G) (h5:B≤B5) (hv5:∀g,v.ownBlock = some g→g < B5) (hF:∀y∈F,y < B5) (hg:w.grownBy w' v.ownBlock) (hat:v'.ownBlock = v.ownBlock∨v'.ownBlock = some (w.heap.size+1)) :
 aY w' B (xs++[x]) (ds++cs) (F++G)∧∀g,v'.ownBlock = some g→g∉F++G:=by
 have h1:=hcs.push hx h5 hF;have hno:∀g,v.ownBlock = some g→g∉F++G:=fun g hv hm=>by
  rcases List.mem_append.1 hm with hm | hm
  ·exact hne g hv hm
  ·have:=hx.base g hm;have:=hv5 g hv;omega
 refine ⟨h1.keep (fun y hy=>hg.block y (h1.lt y hy) (fun hv=>hno y hv.symm hy)) hg.size,fun g hv hm=>?_⟩;rcases hat with hat | hat
 ·exact hno g (hat.symm.trans hv) hm
 ·have h2:=h1.lt g hm;rw [hat] at hv;injection hv with hv;omega
end
theorem rW {α:Type} [Dat α] {P:Program} {t e:TypeId} {z:Value} {size bytes:Nat} (hE:DL P t e z size bytes) (hd:Dat.size α = size) {ops:Array Oper} {rest:List Oper} {o:Oper} {a:Act} {Q:Exit→Act→World→Prop} (hgd:o.guard = none) (s x:Operand)
 (ho:o.op = .call { callee:=.builtin .append,args:=#[s,x],argTypes:=#[t,t] })
 (w:World) (base:Nat) (v:Value) (n:Nat) (xs:List Value) (hown:w.ownsRow base e size v n xs) (hs:a.eval s = v)
 (ys:List α) (A:Option Addr) (c:Nat) (F:List Nat) (hsl:Sl w ys A c F) (hx:a.eval x = .slice A ys.length c)
 (hn:n+ys.length≤2097152) (hby:bytes≤4096) (hbase:base≤w.heap.size)
 (h:∀v' w' ds G,jo w ys ds G→(∀b∈G,b∈F)→w'.ownsRow base e size v' (n+ys.length) (xs++ds)→w.grownBy w' v.ownBlock→(v'.ownBlock = v.ownBlock∨v'.ownBlock = some w.heap.size)→wpList P ops Q rest (a.put o.dst v') w'):wpList P ops Q (o :: rest) a w:=by
 subst hd;obtain ⟨ht,hi0,hzs,hsz⟩:=hE;obtain ⟨i,hi,hz,hsize,hb⟩:=info_parts hi0;have hbb:(n+ys.length) * bytes≤2097152 * 4096:=Nat.mul_le_mul hn hby;obtain ⟨A',c',G,ds,e0,h1,h2,hc,h0⟩:=hsl;simp only [List.cons.injEq,Value.slice.injEq,and_true,true_and] at e0;obtain ⟨rfl,rfl⟩:=e0;have some_:∀(ad:Addr),A = some ad→(∀j u,ds[j]? = some u→w.cell? (ad.add j) = some u)→wpList P ops Q (o :: rest) a w:=by
  intro ad hA hcell;subst hA;have hG:∀b∈G,b∈F:=by
   rcases h0 with ⟨rfl,rfl⟩ | ⟨b,o',_,rfl,_⟩
   ·rw [hc.2];intro b hb;cases hb
   ·intro x hx;exact List.mem_cons_of_mem _ hx
  exact wpList_append_own_at w hgd s x t ho base e i z (Dat.size α) bytes ht hi hz hsize hb hzs hsz v n xs hs hown ad ys.length c ds hx hc.len hcell hc.one at6 O' hbase (fun v' w' hown' hg _ hat=>h v' w' ds G hc hG hown' hg hat)
 rcases h0 with ⟨rfl,rfl⟩ | ⟨b,o',hA,rfl,hb,hcell⟩
 ·obtain ⟨rfl,rfl⟩:=hc;cases A with
  | some ad=>exact some_ ad rfl (fun j u hu=>by simp at hu)
  | none =>
    have fin:∀(A2:Option Addr) (cap:Nat),v = .slice A2 n cap→n≤cap→wpList P ops Q (o :: rest) a w:=by intro A2 cap hv hle;refine wpList_plain hgd fun K hK=>?_;have hr:=run_append_nothing (P:=P) w t t o.type e i ht hi A2 n cap hle (.slice none 0 c) (Src.ofNil w ht c);unfold Oper.wp execOp;simp only [ho,resolve,invoke,builtin,Sem.run_bind,Sem.run_pure,Result.andThen_ok,List.map_toArray,List.map_cons,List.map_nil,hs,hv,hx,List.length_nil,hr];refine hK _ _ ?_;subst hv;exact h _ w [] [] ⟨rfl,rfl⟩ (fun b hb=>hb) (by simpa using hown) ⟨rfl,rfl,rfl,Nat.le_refl _,fun _ _ _=>rfl⟩ (.inl rfl)
    rcases hown.2 with ⟨hv,hn0⟩ | ⟨g,cap,cur,hv,_,_,hle,_⟩
    ·exact fin none 0 (by rw [hv,hn0]) O'
    ·exact fin _ cap hv hle
 ·refine some_ _ hA fun j u hu=>?_;rw [show (⟨b,o',none⟩:Addr).add j = ⟨b,o'+j,none⟩ from by unfold Addr.add;split <;> simp_all];exact hcell j u hu
section
variable {α:Type} [Dat α] {w:World}
theorem abn (hf:∀{w:World} {x:α} {cs:List Value} {F:List Nat},rd w x cs F→F = []):∀{xs:List α} {ds:List Value} {F:List Nat},jo w xs ds F→F = []
 | [],_,_,h=>h.2
 | x :: xs,_,_,⟨c1,c2,F1,F2,_,rfl,h1,h2⟩=>by rw [hf h1,abn hf h2];rfl
theorem Own.of_flat {B:Nat} {e:TypeId} {v:Value} {xs:List α} {ds:List Value} {F:List Nat} (hf:∀{w:World} {x:α} {cs:List Value} {F:List Nat},Go.Proofs.YtnedlmlpeplnfaaGreat.Dat.rd w x cs F→F = []) (h0:w.ownsRow B e (Dat.size α) v xs.length ds) (h:jo w xs ds F) :
 ∃A c G,v = .slice A xs.length c∧Own w B xs [.slice A xs.length c] G:=by
 obtain rfl:=abn hf h;exact Own.oJ h0 ⟨h,List.nodup_nil,(fun b hb=>by cases hb),(fun b hb=>by cases hb)⟩ (fun g _ hm=>by cases hm)
end
theorem Fill.oJ {w:World} {B e size n:Nat} {v:Value} {ds:List Value} (h:w.ownsRow B e size v n ds):(v = .slice none 0 0∧n = 0)∨∃g cap N,v = .slice (some ⟨g,0,none⟩) n cap∧B≤g∧Fill w g e N ds∧n≤cap∧cap≤maxLen:=by
 rcases h with ⟨hl,h | ⟨g,cap,cur,rfl,hb,hh,hle,hm,hcs,ht⟩⟩
 ·exact .inl h
 ·refine .inr ⟨g,cap,cur.size,rfl,hb,⟨cur,hh,rfl,?_,fun j u hu=>?_⟩,hle,hm⟩
  ·rw [hl,hcs];exact Nat.mul_le_mul_right _ hle
  ·exact Zab9
theorem Fill.set {w:World} {g:Nat} {t:TypeId} {N:Nat} {ds:List Value} (h:Fill w g t N ds) {i:Nat} (hi:i < ds.length) (u:Value):Fill (w.setCell ⟨g,i,none⟩ u) g t N (ds.set i u):=by
 obtain ⟨cs,h,rfl,hl,hc⟩:=h;refine ⟨cs.setIfInBounds i u,?_,S',by simpa using hl,fun j v hv=>?_⟩
 ·simp [World.setCell,Array.getElem?_modify,h]
 ·by_cases hj:i = j
  ·subst hj;rw [List.getElem?_set_self hi] at hv;cases hv
   rw [Array.getElem?_setIfInBounds_self_of_lt O']
  ·rw [List.getElem?_set_ne hj] at hv;rw [Array.getElem?_setIfInBounds_ne hj];exact hc j v hv
theorem Fill.at_ {w:World} {g:Nat} {t:TypeId} {N:Nat} {ds:List Value} (h:Fill w g t N ds) {j:Nat} {u:Value} (hj:ds[j]? = some u):w.cell? ⟨g,j,none⟩ = some u:=by have:=h.cells j u hj;simpa using this
structure Roomy (α:Type) where
 l:List α
 t:TypeId
instance {α:Type} [Dat α]:Dat (Roomy α) where
 size:=1
 pos:=by omega
 rd w x cs F:=rd w x.l cs F∧((x.l = []∧cs = [.slice none 0 0])∨∃g c cur G,x.l≠[]∧cs = [.slice (some ⟨g,0,none⟩) x.l.length c]∧F = g :: G∧w.heap[g]? = some (.cells cur x.t (0,0))∧cur.size = c * Dat.size α)
 len h:=Dat.len h.1
 one h:=Dat.one h.1
 lt h:=Dat.lt h.1
 frame h hk hz:=⟨Dat.frame h.1 hk hz,by
  rcases h.2 with h2 | ⟨g,c,cur,G,h0,h1,h2,h3,h4⟩
  ·exact .inl h2
  ·exact .inr ⟨g,c,cur,G,h0,h1,h2,(hk g (by rw [h2];exact List.mem_cons_self ..)).trans h3,h4⟩⟩
section
variable {α:Type} [Dat α] {w:World} {B:Nat} {xs:List α} {ds:List Value} {F:List Nat}
end
theorem mW (x:ByteArray) (k:Int):nU (mkStr x k) = nU x:=rfl
theorem Eh (x:ByteArray) (k:Int):mkStr (mkStr x k) k = mkStr x k:=rfl
theorem FN {α:Type} {cnt f:α→Nat} {a:Nat} (h:∀x,cnt x≤a * (f x+1)):∀xs:List α,cO cnt xs≤a * kL f xs
 | []=>by simp [cO]
 | x :: xs=>by
   have h1:=FN h xs;have h2:=h x;unfold kL at h1 ⊢;simp only [cO,List.length_cons,List.map_cons,List.sum_cons];have e:a * (xs.length+1+(f x+(xs.map f).sum)) = a * (f x+1)+a * (xs.length+(xs.map f).sum):=(by rw [← Nat.mul_add];congr 1;omega);omega
theorem aiU (x:ByteArray):nU x≤1 * (x.size+1):=by unfold nU;omega
structure Cq3 (w wk:World) (cs zs os:List Value):Prop where
 box:oG wk w.heap.size cs
 rb:oG wk (w.heap.size+1) zs
 ob:oG wk (w.heap.size+1+1) os
 below:Below w.heap.size w wk
section
variable {w wk w':World} {cs zs os:List Value}
theorem Cq3.new (w:World) (cs zs os:List Value) (t t2 t3:TypeId):Cq3 w (((w.alloc (.cells cs.toArray t)).alloc (.cells zs.toArray t2)).alloc (.cells os.toArray t3)) cs zs os :=
 ⟨((oG.new w cs t).ext (ak (aj _) _)).ext (ak (aj _) _),(by have:=oG.new (w.alloc (.cells cs.toArray t)) zs t2;rw [World.size_alloc] at this;exact this.ext (ak (aj _) _)),(by have:=oG.new ((w.alloc (.cells cs.toArray t)).alloc (.cells zs.toArray t2)) os t3;rw [World.size_alloc,World.size_alloc] at this;exact this),ak (ak (ak (aj _) _) _) _⟩
theorem Cq3.ext (h:Cq3 w wk cs zs os) (hb:Below wk.heap.size wk w'):Cq3 w w' cs zs os:=⟨h.box.ext hb,h.rb.ext hb,h.ob.ext hb,ah h.below hb⟩
theorem Cq3.put (h:Cq3 w wk cs zs os) (i:Nat) (u:Value):Cq3 w (wk.setCell ⟨w.heap.size+1+1,i,none⟩ u) cs zs (os.set i u):=⟨h.box.far O' i u,h.rb.far O' i u,h.ob.put i u,aC h.below atX u⟩
end
theorem rd_extN {α:Type} [Dat α] {w w':World} {x:α} {cs:List Value} {F:List Nat} (h:rd w x cs F) (hb:Below w.heap.size w w'):rd w' x cs F:=Dat.frame h (fun b hb'=>hb.block b (Dat.lt h b hb')) hb.size
end Go.Proofs.YtnedlmlpeplnfaaGreat
