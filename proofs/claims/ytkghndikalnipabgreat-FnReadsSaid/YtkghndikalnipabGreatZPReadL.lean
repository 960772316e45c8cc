/- Plain laws. -/
import Derived.Test.YtkghndikalnipabGreatZPT6
set_option linter.unusedSimpArgs false
set_option linter.unusedVariables false
namespace Go.Proofs.YtkghndikalnipabGreat.En
open Go
section
section
variable [dL]
theorem Tt.dn{α β:Type}{Q:α->Prop}{Q':β->Prop}{r:Option (List qO×α)}{k:List qO×α->Option β}(h:Dn Q r)(hk: ∀c a,FR c->Q a->Tt Q' (k ([c],a))):Tt Q' (r.bind k):=by obtain⟨c,a,rfl,h1,h2⟩:=h;exact hk c a h1 h2
theorem Dn.tt{α β:Type}{Q:α->Prop}{Q':β->Prop}{r:Option α}{k:α->Option (List qO×β)}(h:Tt Q r)(hk: ∀a,Q a->Dn Q' (k a)):Dn Q' (r.bind k):=by obtain⟨a,rfl,h⟩:=h;exact hk a h
theorem Xb{α:Type}{Q:α->Prop}{r:Option (List qO×α)}(h:Tt (λy=> ∃c,y.1= [c] /\FR c/\Q y.2) r):Dn Q r:=by obtain⟨⟨_,a⟩,rfl,c,rfl,h1,h2⟩:=h;exact⟨c,a,rfl,h1,h2⟩
theorem X8{c:qO}(h:FR c):Dn (λy:List Int×Unit=>Mb y.1) (K0 [c]):=by
 refine Xb ?_;unfold K0;refine .bind (.count (B:=Nh) (E:=λe=> ∃c,e.2.2.1= [c] /\FR c/\Mb e.2.2.2.1) 5 (λk (b:qO×List Int)=>(((),(),(k:Int),()),(),[b.1],b.2,())) (λk b=>FR b.1/\b.2.length<=k/\SS b.2/\ ∀y∈b.2,0<=y/\y< (k:Int)) (λb hb=> .end (EK _) (.ret ⟨b.1,rfl,hb.1,NJ hb.2.2.1 hb.2.2.2⟩)) (λk b hk hb=> ?_) (c,[]) ⟨h,az _,List.Pairwise.nil,nofun⟩) λy hy=> .ret hy;obtain⟨h1,h2,h3,h4⟩:=hb;have sw:=kT (n:=5) (by decide) hk;have stay: ∀y∈b.2,0<=y/\y< ((k+1:Nat):Int):=λy hy=>by have:=h4 y hy;omega
 refine .go (show (k:Int)<5 by omega) (.dn (HF h1 2) λc1 _ hc _=> .ip rfl (.br (λ_=> .ip (by show (b.2++ [(k:Int)]).length*8<=2 ^ 40;rw[be,cn];omega) (.ret ⟨(c1,b.2++ [(k:Int)]),by rw[sw],hc,by rw[be,cn];omega,?_,λy hy=> ?_⟩)) λ_=> .ret ⟨(c1,b.2),by rw[sw],hc,ES h2,h3,stay⟩))
 ·exact Fb.2 ⟨h3,EZ _ _,λy hy z hz=>by rw[aJ.1 hz];exact (h4 y hy).2⟩
 ·rcases bi.1 hy with hy|hy
  ·exact stay y hy
  ·rw[aJ.1 hy];omega
omit [dL] in
theorem XV{l:List vB}(h5:l.length=5)(h: ∀p∈l,(0<=p.rack/\p.rack<=9)/\(0<=p.capacity/\p.capacity<=9)/\0<=p.load/\p.load<=99):FI l=some (true,()):=by
 have lm:l.length<=maxLen:=by unfold maxLen;omega
 have fm:Tt (λy:Bool×Unit=>y.1=true) (FI l):=by
  unfold FI;refine .bind (.count (B:=Hx) (E:=Sum.elim (λ_=>False) λe=>e.1.1=l) l.length (λk (_:Unit)=>((l,(k:Int),()),(),())) (λ_ _=>True) (λ_ _=> .end (EK _) (.ret rfl)) (λk _ hk _=> .go (EJ.2 hk) (.ip (EI k) (.get (tn hk) λp _ hp=> ?_))) () trivial) λy hy=> ?_
  ·obtain⟨h1,_⟩:=h p hp;rw[F2,Fl.2 h1,ak];refine .br (λh=>by cases h) λ_=> .ip (EI k) (.get (tn hk) λq _ hq=> ?_);obtain⟨_,h2,_⟩:=h q hq;rw[F2,Fl.2 h2,ak];refine .br (λh=>by cases h) λ_=> .ip (EI k) (.get (tn hk) λr _ hr=> ?_);obtain⟨_,_,h3⟩:=h r hr;rw[F2,Fl.2 h3,ak];exact .br (λh=>by cases h) λ_=> .ret ⟨(),by rw[kT lm hk],trivial⟩
  ·cases y with
   |inl y=>exact hy.elim
   |inr y=>refine .ret ?_;show ((y.1.1.length:Int)==5)=true;rw[show y.1.1=l from hy,h5];rfl
 obtain⟨⟨b,_⟩,e,rfl⟩:=fm;exact e
theorem Wk{c:qO}(h:FR c):Dn (λy:List vB×Unit=>y.1.length=5/\FI y.1=some (true,())) (Kr [c]):=by
 refine Xb ?_;unfold Kr;refine .bind (.count (B:=Lh) (E:=λe=> ∃c,e.2.2.1= [c] /\FR c/\e.2.2.2.1.length=5/\FI e.2.2.2.1=some (true,())) 5 (λk (b:qO×List vB)=>(((),(),(k:Int),()),(),[b.1],b.2,())) (λk b=>FR b.1/\b.2.length=k/\ ∀p∈b.2,(0<=p.rack/\p.rack<=9)/\(0<=p.capacity/\p.capacity<=9)/\0<=p.load/\p.load<=99) (λb hb=> .end (EK _) (.ret ⟨b.1,rfl,hb.1,hb.2.1,XV hb.2.1 hb.2.2⟩)) (λk b hk hb=> ?_) (c,[]) ⟨h,rfl,nofun⟩) λy hy=> .ret hy;obtain⟨h1,h2,h3⟩:=hb;refine .go (show (k:Int)<5 by omega) (.dn (I0 h1 (n:=4) (by omega)) λc1 x g1 hx=> .ip rfl (.dn (I0 g1 (n:=4) (by omega)) λc2 y g2 hy=> .ip rfl (.dn (I0 g2 (n:=4) (by omega)) λc3 z g3 hz=> .ip rfl (.ip ?_ (.ret ⟨(c3,b.2++ [⟨x.1,1+y.1,z.1⟩]),?_,g3,by rw[be,cn,h2],λp hp=> ?_⟩)))))
 ·rw[be,cn,show List.length _=k from h2];omega
 ·dsimp only;rw[kT (n:=5) (by decide) hk,of (n:=1+y.1) (by omega) (by omega)]
 ·rcases bi.1 hp with hp|hp
  ·exact h3 p hp
  ·rw[aJ.1 hp];show (0<=x.1/\x.1<=9)/\(0<=1+y.1/\1+y.1<=9)/\0<=z.1/\z.1<=99;omega
omit [dL] in
theorem Wj(v:Int):Tt (λy=>F3 1048576 y.1) (JB v):=by
 unfold JB;rw[F2,ak];have ok: ∀v:Int,F3 1048576 ⟨true,true,v,0,⟨0,0,[],[]⟩,0,[],0,[]⟩:=λ_=>⟨⟨bH _,bH _⟩,bH _,bH _⟩
 exact .br (λ_=> .ret (ok _)) λ_=> .ret (ok _)
omit [dL] in
theorem ZN(l:List vB)(hl:l.length<=1048576):Tt (λy=>F9 1048576 y.1/\(FI l=some (true,())->y.1.servers.length=5)) (JX l):=by
 obtain⟨v,v1,_⟩:=My l (Fw hl);unfold JX;rw[v1,ak,Ff];refine .br (λe=> .ip (by decide) (.ip ?_ (.bind (.count (B:=JH) (E:=λe=> ∃S:List qQ,S.length=5/\(∀s∈S,F3 1048576 s)/\e=(((),(),()),(fz,(0,(),(),(),0,3,0,0,0,(),()),()),S,List.replicate (5:Int).toNat (0:Int),[] ++l,())) 5 (λk (S:List qQ)=>(((),(),(k:Int),()),(fz,(0,(),(),(),0,3,0,0,0,(),()),()),S,List.replicate (5:Int).toNat (0:Int),[] ++l,())) (λk S=>S.length=k/\ ∀s∈S,F3 1048576 s) (λS hS=> .end (EK _) (.ret ⟨S,hS.1,hS.2,rfl⟩)) (λk S hk hS=> .go (show (k:Int)<5 by omega) (.bind (Wj 1) λs hs=> .ip ?_ (.ret ⟨S++ [s.1],by rw[kT (n:=5) (by decide) hk],by rw[be,cn,hS.1],λt ht=> ?_⟩))) [] ⟨rfl,nofun⟩) ?_))) λ_=> .ret ⟨⟨⟨bH _,nofun⟩,bH _,⟨bH _,nofun⟩,bH _⟩,λe=>by simp_all⟩
 ·rw[bK];omega
 ·rw[be,cn,show List.length _=k from hS.1];omega
 ·exact (bi.1 ht).elim (hS.2 t) λe=>by rw[aJ.1 e];exact hs
 ·rintro _ ⟨S,h5,hS,rfl⟩
  exact .ret ⟨⟨⟨by show S.length<=_;omega,hS⟩,by show (List.replicate (5:Int).toNat (0:Int)).length<=_;decide,⟨bH _,nofun⟩,hl⟩,λ_=>h5⟩
omit [dL] in
theorem W7{e p:Int}{R W:List Int}(he:1<=e/\e<=20)(hR:Mb R)(hW:Mb W)(hp:p∈R)(hd: ∀y∈R,y∉W):Fm ⟨e,p,R,W⟩=some (true,()):=by have hr:=hR.len;have hw:=hW.len;unfold Fm;simp only[F2,Fl.2 he,ak,DG,(Oo hR).1,(Oo hW).1,(FP R p (by unfold maxLen;omega)).1,decide_eq_true hp,PY R W hR (by unfold maxLen;omega)];rw[List.filter_eq_nil_iff.2 λy hy h=>hd y hy (of_decide_eq_true h)];rfl
theorem ZC{c:qO}(h:FR c)(e:Int):Dn (λy:om×Unit=>y.1.epoch=e/\y.1.replicas.length<=5/\y.1.witnesses.length<=5/\(1<=e/\e<=20->Fm y.1=some (true,()))) (Jq [c] e):=by
 unfold Jq;refine .bind (I0 h (n:=5) (by omega)) λc1 p h1 hp=> .iteP rfl (.bind (X8 h1) λc2 l h2 hl=> .iteP rfl ?_);obtain⟨r,r1,r2,r3,_⟩:=YH l.1 p.1 (by have:=hl.len;omega) hl.pair;rw[show HE _ _=_ from r1,ak]
 have fm: ∀R:List Int,Mb R->p.1∈R->Dn (λy:om×Unit=>y.1.epoch=e/\y.1.replicas.length<=5/\y.1.witnesses.length<=5/\(1<=e/\e<=20->Fm y.1=some (true,()))) ((F8 [c2] 2).bind λy5=>iteP (y5.1.length=([c2]:List qO).length) (br y5.2.1 ((K0 y5.1).bind λy6=>iteP (y6.1.length=y5.1.length) ((FW y6.2.1 R).bind λy7=>br (decide ((y7.1.length:Int)>0)) (iteP (0<=(0:Int)/\(0:Int)<=(1:Int)/\(1:Int)<=((y7.1.length:Nat):Int)) (iteP ((0+(0:Int).toNat)=0/\((1:Int).toNat-(0:Int).toNat)<=y7.1.length) (some (y6.1,(⟨e,p.1,R,(y7.1.take ((1:Int).toNat-(0:Int).toNat))⟩:om),())) (iteP ((0+(0:Int).toNat)+((1:Int).toNat-(0:Int).toNat)<=y7.1.length) (some (y6.1,(⟨e,p.1,R,((y7.1.drop (0+(0:Int).toNat)).take ((1:Int).toNat-(0:Int).toNat))⟩:om),())) none)) none) (some (y6.1,(⟨e,p.1,R,([]:List Int)⟩:om),()))) none) (some (y5.1,(⟨e,p.1,R,([]:List Int)⟩:om),()))) none):=λR hR hpR=>by
  have nil:Mb [] :=λk hk=>by simp at hk
  have rl:=hR.len;refine .bind (HF h2 2) λc3 _ h3 _=> .iteP rfl (.br (λ_=> .bind (X8 h3) λc4 w h4 hw=> .iteP rfl ?_) λ_=> .ret h3 ⟨rfl,rl,bH _,λhe=>W7 he hR nil hpR λ_ _=>nofun⟩);rw[show FW _ _=_ from R6 w.1 R hw (by unfold maxLen;omega),ak];have hf:=hw.filter λx=> !decide (x∈R)
  have hn: ∀y∈R,y∉w.1.filter λx=> !decide (x∈R):=λy hy h=>by have:=(EX.1 h).2;simp[hy] at this
  have fl:=hf.len;generalize w.1.filter (λx=> !decide (x∈R))=f at hf hn fl;refine .br (λhpos=> ?_) λ_=> .ret h4 ⟨rfl,rl,bH _,λhe=>W7 he hR nil hpR λ_ _=>nofun⟩;have hpos: (f.length:Int)>0:=of_decide_eq_true hpos;refine .iteP (by show (0:Int)<=0/\(0:Int)<=1/\(1:Int)<=(f.length:Int);omega) (.iteP (by show 0=0/\1<=f.length;omega) (.ret h4 ⟨rfl,rl,?_,λhe=>W7 he hR ?_ hpR λy hy h=>hn y hy (bJ h)⟩))
  ·show (f.take _).length<=5;rw[ci];omega
  ·exact NJ (hf.pair.sublist (List.take_sublist _ _)) λy hy=>KB hf y (bJ hy)
 have ra:Mb r:=NJ r2 λy hy=>((r3 y).1 hy).elim (λe=>by rw[e];exact hp) (KB hl y);refine .br (λ_=>fm [p.1] (NJ (EZ _ _) λy hy=>by rw[aJ.1 hy];exact hp) (aJ.2 rfl)) λ_=>fm r ra ((r3 _).2 (.inl rfl))
omit [dL] in
theorem ZL{M:kB}(h:Mw 1048576 M)(hl:M.configs.length<=1000){c:om}(hc:GV 1048576 c):Mw 1048576 ⟨M.configs++ [c],M.activated⟩:=⟨by show (M.configs++ [c]).length<=_;rw[be,cn];omega,λd hd=>(bi.1 hd).elim (h.2 d) λe=>by rw[aJ.1 e];exact hc⟩
theorem ZY{c:qO}(h:FR c):Dn (λy:List Int×Unit=>y.1.length<=6) (Ov [c]):=by
 unfold Ov;refine .bind (X8 h) λc1 l h1 hl=> .iteP rfl (.bind (HF h1 _) λc2 _ h2 _=> .iteP rfl (.br (λ_=> .bind (GP h2 (by simp)) λc3 x h3 _=> .iteP rfl ?_) λ_=> .ret h2 ?_))
 ·have:=hl.len;refine .iteP ?_ (.ret h3 ?_)
  ·show (l.1++ [x.1]).length*8<=2 ^ 40;rw[be,cn];omega
  ·show (l.1++ [x.1]).length<=6;rw[be,cn];omega
 ·exact ba hl.len (by omega)
theorem W6{c:qO}(h:FR c):Dn (λy:om×Unit=>GV 1048576 y.1) (Ox [c]):=by
 unfold Ox;refine .bind (FS h _) λc1 e h1 _=> .iteP rfl (.bind (ZC h1 _) λc2 g h2 hg=> .iteP rfl (.bind (FS h2 _) λc3 x h3 _=> .iteP rfl ?_));obtain⟨_,g1,g2,_⟩:=hg;have ok:GV 1048576 g.1:=⟨by omega,by omega⟩
 refine .br (λ_=> .bind (GP h3 (by simp)) λc4 _ h4 _=> .iteP rfl (.ret h4 ok)) λ_=> .br (λ_=> .bind (FS h3 _) λc4 _ h4 _=> .iteP rfl (.ret h4 ok)) λ_=> .br (λ_=> .bind (ZY h3) λc4 l h4 hl=> .iteP rfl (.ret h4 ⟨by show l.1.length<=_;omega,ok.2⟩)) λ_=> .br (λ_=> .bind (ZY h3) λc4 l h4 hl=> .iteP rfl (.ret h4 ⟨ok.1,by show l.1.length<=_;omega⟩)) λ_=> .ret h3 ok
theorem aar{c:qO}(h:FR c):Dn (λy:kB×Unit=>Mw 1048576 y.1/\y.1.configs.length<=10) (NN [c]):=by
 unfold NN;refine .bind (I0 h (n:=5) (by omega)) λc1 n h1 hn=> .iteP rfl (Xb (.bind (.loop (B:=Nf) (E:=λe=> ∃c,e.2.2.1= [c] /\FR c/\Mw 1048576 ⟨e.2.2.2.1,e.2.1.2.1.2.1⟩/\e.2.2.2.1.length<=10) (λs=> ∃ (c:qO) (M:kB) (k:Int),s=(((),(),(),k,()),(((),0,()),((),M.activated,()),()),[c],M.configs,())/\FR c/\Mw 1048576 M/\0<=k/\M.configs.length+k.toNat<=10) (λs=>s.1.2.2.2.1.toNat) ?_ ⟨c1,⟨[],0⟩,n.1,rfl,h1,⟨bH _,nofun⟩,hn.1,by show 0+n.1.toNat<=10;omega⟩) λy hy=> .ret hy))
 rintro _ ⟨c,M,k,rfl,hc,hM,h0,hl⟩
 refine .br (λhk=> ?_) λ_=> .ret ⟨c,rfl,hc,hM,by show M.configs.length<=10;omega⟩;have hk:k>0:=of_decide_eq_true hk;have hw:IntKind.wrap .i64 (k-1)=k-1:=of (by omega) (by omega);refine .dn (ZC hc _) λc2 g h2 hg=> .ip rfl (.bind (QH M hM g.1 ⟨by omega,by omega⟩) λm hm=> .dn (HF h2 _) λc3 _ h3 _=> .ip rfl (.br (λ_=> .bind (Q7 m.1 hm.1 _) λa ha=> .ret ⟨⟨c3,a.1,k-1,by dsimp only;rw[hw],h3,ha.1,by omega,by omega⟩,?_⟩) λ_=> .ret ⟨⟨c3,m.1,k-1,by dsimp only;rw[hw],h3,hm.1,by omega,by omega⟩,?_⟩))
 all_goals
  show (IntKind.wrap .i64 (k-1)).toNat<k.toNat;rw[hw];omega
theorem aak{c:qO}(h:FR c):Dn (λy:kB×Unit=>Mw 1048576 y.1) (NM [c]):=by unfold NM;refine .bind (aar h) λc1 m h1 hm=> .iteP rfl (.bind (FS h1 _) λc2 _ h2 _=> .iteP rfl (.br (λ_=> .bind (GP h2 (by simp)) λc3 _ h3 _=> .iteP rfl (.ret h3 hm.1)) λ_=> .br (λ_=> .bind (W6 h2) λc3 g h3 hg=> .iteP rfl (.iteP ?_ (.ret h3 (ZL hm.1 (by omega) hg)))) λ_=> .ret h2 hm.1));show (m.1.configs++ [g.1]).length*64<=2 ^ 40;rw[be,cn];omega
omit [dL] in
theorem XR(c:om)(h:GV maxLen c)(hv:Fm c=some (true,())):Tt (λy=>0<y.1.length/\y.1.length<=10) (Ge c):=by unfold Ge;rw[hv,ak];refine .br (λh=>by cases h) λ_=> ?_;obtain⟨a1,a2,a3,_⟩:=NK h hv;have l1:=a1.len;have l2:=a2.len;obtain⟨r,r1,_,r4,r5⟩:=X3 c.replicas c.witnesses (by omega) (by omega);rw[r1];exact .ret ⟨List.length_pos_of_mem ((r4 c.primary).2 (.inl a3)),by show r.length<=10;omega⟩
omit [dL] in
theorem aan(l:List sf)(e:Int)(hl:l.length<=1048576):Tt (λy=>y.1.length<=1048576) (NR l e):=by
 unfold NR;refine .bind (.count (B:=Ng) (E:=λy=> ∃k:Nat,k<=l.length/\y=((l,(k:Int),()),(),())) l.length (λk (_:Unit)=>((l,e,(k:Int),()),(),())) (λ_ _=>True) (λ_ _=> .end (EK _) (.ret ⟨l.length,az _,rfl⟩)) (λk _ hk _=> .go (EJ.2 hk) (.ip (EI k) (.get (tn hk) λ_ _ _=> .br (λ_=> .ret ⟨(),by rw[kT (Fw hl) hk],trivial⟩) λ_=> .ret ⟨k,Nat.le_of_lt hk,rfl⟩))) () trivial) ?_
 rintro _ ⟨k,hk,rfl⟩
 have h2: ((l.drop (0:Int).toNat).take ((k:Int).toNat-(0:Int).toNat)).length<=1048576:=by rw[ci,bR];omega
 exact .ip ⟨c9 _,EI k,Int.ofNat_le.2 hk⟩ (.bind (Q:=λy=>y.1.length<=1048576) ⟨_,Pr h2,h2⟩ λy hy=> .ret hy)
theorem YJ{c:qO}(h:FR c):Dn (λy:qQ×Int×Unit=>F3 1048576 y.1) (KY [c]):=by
 unfold KY;refine .bind (FS h _) λc1 _ h1 _=> .iteP rfl (.tt (Wj _) λs hs=> .bind (I0 h1 (n:=3) (by omega)) λc2 e h2 he=> .iteP rfl (.bind (ZC h2 _) λc3 g h3 hg=> .iteP rfl ?_));have hw:IntKind.wrap .i64 (1+e.1)=1+e.1:=of (by omega) (by omega);obtain⟨g0,g1,g2,g3⟩:=hg;have g3:=g3 (by rw[hw];omega);have okc:GV 1048576 g.1:=⟨by omega,by omega⟩
 refine .tt (XR g.1 (Fz okc) g3) λm hm=> .bind (I0 h3 (n:=(m.1.length:Int)) (by omega)) λc4 i h4 hi=> .iteP rfl (.iteP hi (.get (by show i.1.toNat<m.1.length;omega) λz _=> .bind (HF h4 _) λc5 _ h5 _=> .iteP rfl ?_))
 have fin: ∀ (c6:qO) (t:qQ),FR c6->F3 1048576 t-> ∀up:Bool,Dn (λy:qQ×Int×Unit=>F3 1048576 y.1) ((F8 [c6] 4).bind λy46=>iteP (y46.1.length=([c6]:List qO).length) (br y46.2.1 ((Fh y46.1 3).bind λy47=>iteP (y47.1.length=y46.1.length) ((Hn (⟨up,t.intact,t.version,t.epoch,t.config,t.first,t.log,t.commit,t.learned⟩:qQ) (IntKind.wrap .i64 (4+y47.2.1))).bind λy48=>some (y47.1,y48.1,z,())) none) (some (y46.1,(⟨up,t.intact,t.version,t.epoch,t.config,t.first,t.log,t.commit,t.learned⟩:qQ),z,()))) none):=λc6 t h6 ht up=>.bind (HF h6 _) λc7 _ h7 _=> .iteP rfl (.br (λ_=> .bind (FS h7 _) λc8 _ h8 _=> .iteP rfl (.tt (U0 ⟨up,t.intact,t.version,t.epoch,t.config,t.first,t.log,t.commit,t.learned⟩ _ ht) λu hu=> .ret h8 hu)) λ_=> .ret h7 ht)
 rw[Ff];refine .br (λ_=> .bind (HF h5 _) λc6 _ h6 _=> .iteP rfl (.br (λ_=>fin c6 s.1 h6 hs _) λ_=>fin c6 s.1 h6 hs _)) λ_=> .bind (Xv h5) λc6 l h6 hl=> .iteP rfl (.tt (aan l.1 _ (by omega)) λl2 hl2=> .tt (Uh s.1 g.1 z l2.1 hs okc hl2) λt ht=> .bind (HF h6 _) λc7 _ h7 _=> .iteP rfl (.br (λ_=>fin c7 t.1 h7 ht _) λ_=>fin c7 t.1 h7 ht _))
theorem WZ{c:qO}(h:FR c):Dn (λy:qQ×Int×Unit=>F3 1048576 y.1) (NQ [c]):=by unfold NQ;refine .bind (YJ h) λc1 s h1 hs=> .iteP rfl (.bind (FS h1 _) λc2 _ h2 _=> .iteP rfl ?_);refine .br (λ_=> .bind (GP h2 (by simp)) λc3 _ h3 _=> .iteP rfl (.ret h3 hs)) λ_=> .br (λ_=> .bind (GP h2 (by simp)) λc3 _ h3 _=> .iteP rfl (.ret h3 hs)) λ_=> .br (λ_=> .bind (W6 h2) λc3 g h3 hg=> .iteP rfl (.ret h3 ⟨hg,hs.2⟩)) λ_=> .br (λ_=> .bind (GP h2 (by simp)) λc3 _ h3 _=> .iteP rfl (.ret h3 hs)) λ_=> .br (λ_=> .bind (GP h2 (by simp)) λc3 _ h3 _=> .iteP rfl (.ret h3 hs)) λ_=> .br (λ_=> .bind (FS h2 _) λc3 _ h3 _=> .iteP rfl (.ret h3 hs)) λ_=> .br (λ_=> .bind (WM h2) λc3 l h3 hl=> .iteP rfl (.ret h3 ⟨hs.1,by show l.1.length<=_;omega,hs.2.2⟩)) λ_=> .ret h2 hs
theorem X6{c:qO}(h:FR c):Dn (λy:List Int×Unit=>y.1.length<=5) (NS [c]):=by
 unfold NS;refine .bind (X7 h) λc1 l h1 hl=> .iteP rfl (.bind (FS h1 _) λc2 _ h2 _=> .iteP rfl (.br (λ_=> ?_) λ_=> .br (λ_=> .bind (GP h2 (by simp)) λc3 x h3 _=> .iteP rfl (.iteP ?_ (.get ?_ λ_ _=> .ret h3 ?_))) λ_=> .ret h2 (EU hl)))
 ·have hl:l.1.length=5:=hl;refine .iteP (by show (0:Int)<=1/\(1:Int)<=(l.1.length:Int)/\(l.1.length:Int)<=(l.1.length:Int);omega) ?_;rw[C7,if_neg (by intro h;exact absurd h.1 (by decide))];refine .iteP (by show 0+(1:Int).toNat+((l.1.length:Int).toNat-(1:Int).toNat)<=l.1.length;omega) (.ret h2 ?_);show ((l.1.drop (0+(1:Int).toNat)).take ((l.1.length:Int).toNat-(1:Int).toNat)).length<=5;rw[ci,bR];omega
 ·have hl:l.1.length=5:=hl;show (0:Int)<=1/\(1:Int)< (l.1.length:Int);omega
 ·have hl:l.1.length=5:=hl;show (1:Int).toNat<l.1.length;omega
 ·show (l.1.set _ _).length<=5;rw[EL];exact EU hl
theorem WQ{c:qO}(h:FR c):Dn (λy:List vB×Unit=>y.1.length<=5) (Px [c]):=by
 unfold Px;refine .bind (Wk h) λc1 l h1 hl=> .iteP rfl (.bind (FS h1 _) λc2 _ h2 _=> .iteP rfl ?_);have hl:l.1.length=5:=hl.1;refine .br (λ_=> ?_) λ_=> .br (λ_=> .bind (GP h2 (by simp)) λc3 x h3 _=> .iteP rfl (.iteP (by show (0:Int)<=0/\(0:Int)< (l.1.length:Int);omega) (.get (by show (0:Int).toNat<l.1.length;omega) λ_ _=> .ret h3 ?_))) λ_=> .br (λ_=> .bind (GP h2 (by simp)) λc3 x h3 _=> .iteP rfl (.iteP (by show (0:Int)<=1/\(1:Int)< (l.1.length:Int);omega) (.get (by show (1:Int).toNat<l.1.length;omega) λ_ _=> .ret h3 ?_))) λ_=> .ret h2 (EU hl)
 ·refine .iteP (by show (0:Int)<=1/\(1:Int)<=(l.1.length:Int)/\(l.1.length:Int)<=(l.1.length:Int);omega) ?_;rw[C7,if_neg (by intro h;exact absurd h.1 (by decide))];refine .iteP (by show 0+(1:Int).toNat+((l.1.length:Int).toNat-(1:Int).toNat)<=l.1.length;omega) (.ret h2 ?_);show ((l.1.drop (0+(1:Int).toNat)).take ((l.1.length:Int).toNat-(1:Int).toNat)).length<=5;rw[ci,bR];omega
 ·show (l.1.set _ _).length<=5;rw[EL];omega
 ·show (l.1.set _ _).length<=5;rw[EL];omega
theorem W8{c:qO}(h:FR c):Dn (λy:qN×Unit=>F9 1048576 y.1/\y.1.servers.length=5) (J3 [c]):=by unfold J3;refine .bind (Wk h) λc1 l h1 hl=> .iteP rfl (.tt (ZN l.1 (by have:=hl.1;omega)) λx hx=> .bind (Wx h1 (by omega) (by omega)) λc2 e h2 he=> .iteP rfl (.tt (VP x.1 hx.1 e.1 (by omega)) λy hy=> .ret h2 ⟨hy.1.1,hy.1.2.trans (hx.2 hl.2)⟩))
theorem Q8{c:qO}(h:FR c):Dn (λy:qN×Unit=>F9 1048576 y.1/\y.1.servers.length=5) (MH [c]):=by unfold MH;refine .bind (W8 h) λc1 x h1 hx=> .iteP rfl (.bind (FS h1 _) λc2 _ h2 _=> .iteP rfl ?_);obtain⟨⟨x1,x2,x3,x4⟩,x5⟩:=hx;refine .br (λ_=> .bind (GP h2 (by simp)) λc3 _ h3 _=> .iteP rfl (.ret h3 ⟨⟨x1,x2,x3,x4⟩,x5⟩)) λ_=> .br (λ_=> .bind (X6 h2) λc3 l h3 hl=> .iteP rfl (.ret h3 ⟨⟨x1,by show l.1.length<=_;omega,x3,x4⟩,x5⟩)) λ_=> .br (λ_=> .bind (aak h2) λc3 m h3 hm=> .iteP rfl (.ret h3 ⟨⟨x1,x2,hm,x4⟩,x5⟩)) λ_=> .br (λ_=> .bind (GP h2 (by simp)) λc3 _ h3 _=> .iteP rfl (.ret h3 ⟨⟨x1,x2,x3,x4⟩,x5⟩)) λ_=> .br (λ_=> .bind (Xu h2) λc3 _ h3 _=> .iteP rfl (.ret h3 ⟨⟨x1,x2,x3,x4⟩,x5⟩)) λ_=> .br (λ_=> .bind (WQ h2) λc3 l h3 hl=> .iteP rfl (.ret h3 ⟨⟨x1,x2,x3,by show l.1.length<=_;omega⟩,x5⟩)) λ_=> .br (λ_=> .bind (WZ h2) λc3 s h3 hs=> .iteP rfl (.bind (I0 h3 (n:=5) (by omega)) λc4 i h4 hi=> .iteP rfl (.iteP (by show 0<=i.1/\i.1< (x.1.servers.length:Int);rw[x5];exact hi) (.get (by show i.1.toNat<x.1.servers.length;omega) λ_ _=> .ret h4 ⟨⟨Pe x1 hs _,x2,x3,x4⟩,by show (x.1.servers.set _ _).length=5;rw[EL];exact x5⟩)))) λ_=> .ret h2 ⟨⟨x1,x2,x3,x4⟩,x5⟩
omit [dL] in
theorem VJ(x:qN)(ok:F9 1048576 x):Tt (λy=>y.1.length<=1048576) (Iy x):=by
 unfold Iy;refine .bind (.count (B:=IP) (E:=λe=>e.2.2.1.length<=1048576) x.servers.length (λk (b:List Int)=>(((),(),(k:Int),()),(fx x,()),b,())) (λk b=>b.length<=k) (λb hb=> .end (EK _) (.ret (ba hb ok.1.1))) (λk b hk hb=> ?_) [] (az _)) λy hy=> .ret hy;have:=ok.1.1;have sw:=kT (Fw ok.1.1) hk;refine .go (EJ.2 hk) (.bind (KA x ok) λ_ _=> .br (λ_=> .ip (EI k) (.get (tn hk) λs _ hs=> ?_)) λ_=> .ret (by show b.length<=_;omega));obtain⟨d,d1,_⟩:=Ju s k (ok.1.2 s hs);rw[show FT _ _=_ from d1,ak];refine .br (λ_=> .ip ?_ (.ret ⟨b++ [(k:Int)],by rw[sw],?_⟩)) λ_=> .ret ⟨b,by rw[sw],ES hb⟩
 ·show (b++ [(k:Int)]).length*8<=2 ^ 40;rw[be,cn];omega
 ·rw[be,cn];omega
theorem aab{x:Hd}{l:List Int}(h:ly x=some l)(hl:l.length<=maxLen)(hb: ∀m∈l,0<=m/\m<=255):Dn (λy:qN×Int×Unit=>F9 1048576 y.1/\y.1.servers.length=5) (MI x):=by unfold MI;refine .bind (XS h hl hb) λc1 _ h1 _=> .bind (Q8 h1) λc2 x h2 hx=> .iteP rfl (.tt (VJ x.1 hx.1) λp hp=> .bind (FS h2 _) λc3 _ h3 _=> .iteP rfl (.br (λhpos=> .bind (HF h3 _) λc4 _ h4 _=> .iteP rfl ?_) λ_=> .ret h3 hx));have hpos: (p.1.length:Int)>0:=of_decide_eq_true hpos;exact .br (λ_=> .bind (I0 h4 (n:=(p.1.length:Int)) (by omega)) λc5 i h5 hi=> .iteP rfl (.iteP hi (.get (by show i.1.toNat<p.1.length;omega) λ_ _=> .ret h5 hx))) λ_=> .ret h4 hx
end
end
section
theorem Tt.tru{r:Option (Bool×Unit)}(h:Tt (λy=>y.1=true) r):r=some (true,()):=by obtain⟨⟨b,_⟩,e,rfl⟩:=h;exact e
theorem Tt.is{α:Type}{Q:α->Prop}{r:Option α}{a:α}(h:Tt Q r)(e:r=some a):Q a:=by obtain⟨b,h1,h2⟩:=h;rw[e] at h1;cases h1;exact h2
end
section

end
section

end
section
structure Co (x y:qN):Prop where
 sides:y.sides=x.sides
 master:y.master=x.master
 srv: ∀ (j:Nat) s,x.servers[j]? =some s-> ∃t,y.servers[j]? =some t/\t.up=s.up/\t.version=s.version/\t.epoch=s.epoch/\t.config=s.config
theorem Co.trans{x y z:qN}(h:Co x y)(k:Co y z):Co x z:=⟨k.1.trans h.1,k.2.trans h.2,λj s hs=>by obtain⟨t,t1,t2,t3,t4,t5⟩:=h.srv j s hs;obtain⟨u,u1,u2,u3,u4,u5⟩:=k.srv j t t1;exact⟨u,u1,u2.trans t2,u3.trans t3,u4.trans t4,u5.trans t5⟩⟩
def Hr(x:qN)(a b:Int):Prop:=∀p q,x.servers[a.toNat]? =some p->x.servers[b.toNat]? =some q->q.epoch=p.epoch/\q.config=p.config
theorem Co.hr{x y:qN}(h:Co x y){a b:Int}(hh:Hr y a b):Hr x a b:=λp q hp hq=>by obtain⟨p',p1,_,_,p2,p3⟩:=h.srv _ _ hp;obtain⟨q',q1,_,_,q2,q3⟩:=h.srv _ _ hq;obtain⟨e1,e2⟩:=hh p' q' p1 q1;exact⟨q2.symm.trans (e1.trans p2),q3.symm.trans (e2.trans p3)⟩
end
section
theorem WB:FZ [] =some (true,()):=(NU [] (by unfold maxLen;decide)).2 ⟨by decide,λk h=>absurd h (Nat.not_lt_zero k)⟩
theorem brE{α:Type}{P:Prop}{b:Bool}{x y z:Option α}(h:br b x y=z)(h1:b=true->x=z->P)(h2:b=false->y=z->P):P:=by
 cases b with
 |true=>exact h1 rfl h
 |false=>exact h2 rfl h
end
section
theorem Xf(l:vz):Tt (λy=>y.1=true->l=⟨0,0,0⟩\/((1<=l.epoch/\l.epoch<=20)/\(0<=l.holder/\l.holder<=4)/\1<=l.ends/\l.ends<=1049)) (GH l):=by unfold GH;simp only[F2,ak];refine .br (λh=> .ret λ_=> .inl ?_) λ_=> .br (λh1=> .br (λh2=> .ret λh3=> .inr ⟨Fl.1 h1,Fl.1 h2,Fl.1 h3⟩) λ_=> .ret nofun) λ_=> .ret nofun;simp only[dj,ao,beq_iff_eq] at h;obtain⟨e,h,n⟩:=l;simp only at h;obtain⟨rfl,rfl,rfl⟩:=h;rfl
def Gr(l:vz)(e h n:Int)(g:vz):Prop:=g.epoch=e/\g.holder=h/\(1<=e/\e<=20)/\(0<=h/\h<=4)/\(0<=n/\n<=999)/\n<g.ends/\g.ends<=1049/\(l.epoch=e->l.holder=h->l.ends<=g.ends)
theorem Ww{l:vz}(h:GH l=some (true,())):l=⟨0,0,0⟩\/1<=l.ends:=((Xf l).is h rfl).imp id λh=>h.2.2.1
theorem ZF(l:vz)(e h n:Int):Eh (HY l e h n) (HW l e h n):=by
 obtain⟨b,b1,b2⟩:=Nl l;unfold HY HW;simp only[b1,b2,F2,Jr,ak,Ff];cases b with
 |false=>exact⟨_,rfl,rfl⟩
 |true=>
  simp only[DG,j6,Kg];rcases Ww b1 with hl|hl
  ·simp only[hl,beq_self_eq_true,Bool.and_self,DG,if_neg (show ¬ (0:Int)>0 by omega)];cases G9 n 0 999<;>exact⟨_,rfl,rfl⟩
  ·rw[show (l.ends==0)=false from beq_eq_false_iff_ne.2 (by omega)];simp only[Fe,E0,CS,if_pos (show l.ends>0 by omega)];cases G9 n 0 999<;>by_cases h1:l.epoch=e<;>by_cases h2:l.holder=h<;>simp only[h1,h2,if_true,if_false,DG,CS]<;>exact⟨_,rfl,rfl⟩
theorem Gr.ok{l g:vz}{e h n:Int}(hg:Gr l e h n g):GG g=some (true,())/\Im g n=some (false,())/\HW g e h n=some (decide (n+3<g.ends),()):=by
 obtain⟨rfl,rfl,h1,h2,h3,h4,h5,_⟩:=hg;have hz: (g.ends==0)=false:=beq_eq_false_iff_ne.2 (by omega)
 have il:GG g=some (true,()):=by unfold GG;simp only[hz,Fe,E0,CS,Jr,Fl.2 h1,Fl.2 h2,Fl.2 (show 1<=g.ends/\g.ends<=1049 by omega),ak,DG]
 refine⟨il,?_,?_⟩
 ·unfold Im Ni;simp only[il,Jr,Fl.2 h3,ak,DG,Ff,hz,Fe,E0,CS,Kg,j6];rw[of (n:=g.ends+3) (by omega) (by omega)];simp only[show ¬g.ends=0 by omega,if_false,ak,decide_eq_false (show ¬n≥g.ends+3 by omega)]
 ·unfold HW;simp only[il,Jr,Fl.2 h3,ak,DG,Ff,hz,Fe,E0,CS,Kg,if_true];rw[of (n:=n+3) (by omega) (by omega)]
section
variable [dL]
end
end
section
theorem Wo(x:qN)(ok:F9 1048576 x)(id:Int): ∃n:Int,Ho x id=some (n,())/\MC x id=some (n,())/\(n=0->Fg x=some (true,())/\0<=id/\id<5):=by
 obtain⟨v,v1,v2⟩:=GQ x ok;unfold Ho MC Gh;simp only[v1,v2,F2,Jr,ak,Ff];cases v with
 |false=>exact⟨1,rfl,rfl,λh=>absurd h (by decide)⟩
 |true=>
  simp only[DG];cases hw:G9 id 0 4 with
  |false=>exact⟨1,rfl,rfl,λh=>absurd h (by decide)⟩
  |true=>
   have hw:=Fl.1 hw;obtain⟨s,s1,_⟩:=O5 ok (GK ok v1) ⟨hw.1,by omega⟩;simp only[DG,C7,if_pos hw.1,s1,ak];cases s.up with
   |false=>exact⟨2,rfl,rfl,λh=>absurd h (by decide)⟩
   |true=>exact⟨0,rfl,rfl,λ_=>⟨trivial,hw.1,by omega⟩⟩
theorem XY(m:nX)(i:Int)(ho:m.objects.length<=1000)(hs:m.sessions.length<=1000): ∃v b,HZ m i=some (v,b,())/\JQ m i=some (v,b,())/\(VM m->0<=i->i<3->m.objects[i.toNat]? =some v):=by
 obtain⟨b,b1,b2,b3⟩:=P0 m ho hs;unfold HZ JQ;simp only[b1,b2,F2,Jr,ak,Ff];cases b with
 |false=>exact⟨0,false,rfl,rfl,λh=>by rw[h.valid hs] at b1;cases b1⟩
 |true=>
  have h3:=b3 rfl;simp only[DG];cases hw:G9 i 0 2 with
  |false=>exact⟨0,false,rfl,rfl,λ_ h0 h3=>by rw[Fl.2 (by omega:0<=i/\i<=2)] at hw;cases hw⟩
  |true=>
   have hw:=Fl.1 hw;have hlt:i.toNat<m.objects.length:=by omega
   simp only[DG,C7,if_pos hw.1,an hlt,ak];exact⟨_,true,rfl,rfl,λ_ _ _=>rfl⟩
theorem X0(s:qQ)(id i:Int)(ok:F3 1048576 s)(hv:Fp s id=some (true,())): ∃P m b r,Fs s=some (P,())/\Gt P=some (m,b,())/\H0 s i=some (r,())/\Kj s i=some (r,())/\r.index=s.commit/\r.code=0/\(0<=i->i<3->m.objects[i.toNat]? =some r.result.value):=by
 obtain⟨_,_,f3,_,_,f6,_⟩:=PZ ok hv;obtain⟨c1,c2⟩:=Wt s id ok hv
 have hp: (Rb s).length<=maxLen/\FZ (Rb s)=some (true,()):=by
  unfold Rb;split
  ·exact⟨by rw[ci];unfold maxLen;omega,Vd (by unfold maxLen;omega) f6 _⟩
  ·exact⟨bH _,WB⟩
 obtain⟨m,b,m1,m2,m3,m4,m5⟩:=WX (Rb s) hp.1;obtain⟨v,w,v1,v2,v3⟩:=XY m i (by omega) (by omega);unfold H0 Kj;simp only[c1,c2,m1,m2,v1,v2,ak];exact⟨_,m,b,_,rfl,m1,rfl,rfl,rfl,rfl,v3 (m5 hp.2).2⟩
theorem Uc(x:qN)(ok:F9 1048576 x)(id:Int): ∃b,F5 x id=some (b,())/\GC x id=some (b,()):=by
 obtain⟨p,p1,p2,p3⟩:=Ly x ok id;unfold F5 GC;rw[p1,p2,ak,ak];cases p with
 |false=>exact⟨false,rfl,rfl⟩
 |true=>obtain⟨hv,h0,h5,_⟩:=p3 rfl;obtain⟨s,s1,_⟩:=O5 ok (GK ok hv) ⟨h0,h5⟩;obtain⟨b,b1,b2⟩:=ZF x.lease s.config.epoch id x.now;simp only[DG,C7,if_pos h0,s1,ak,b1,b2];exact⟨b,rfl,rfl⟩
theorem Vu(x:qN)(ok:F9 1048576 x)(id i:Int): ∃r,HT x id i=some (r,())/\KO x id i=some (r,())/\(r.code=0->F5 x id=some (true,())/\0<=id/\id<5/\0<=i/\ ∃s P m b,x.servers[id.toNat]? =some s/\Fs s=some (P,())/\Gt P=some (m,b,())/\m.objects[i.toNat]? =some r.result.value/\r.index=s.commit):=by
 obtain⟨n,n1,n2,n3⟩:=Wo x ok id;obtain⟨c,c1,c2⟩:=Uc x ok id;unfold HT KO;simp only[n1,n2,c1,c2,F2,Jr,ak,Ff,Kg];by_cases hn:n=0
 case neg=>simp only[if_neg hn];exact⟨_,rfl,rfl,λh=>absurd h hn⟩
 simp only[if_pos hn];obtain⟨hv,h0,h5⟩:=n3 hn;cases hw:G9 i 0 2 with
 |false=>exact⟨_,rfl,rfl,λh=>absurd h (by decide: ¬ (1:Int)=0)⟩
 |true=>
 have hw:=Fl.1 hw;obtain⟨s,s1,s2,s3⟩:=O5 ok (GK ok hv) ⟨h0,h5⟩;obtain⟨p,p1,p2,p3⟩:=Ly x ok id;obtain⟨q,q1,_⟩:=Ju s id s2
 have hpq:p=q:=by unfold Gn at p1;simp only[hv,F2,Fl.2 (show 0<=id/\id<=4 by omega),DG,C7,if_pos h0,s1,q1,ak] at p1;exact (Prod.mk.inj (Option.some.inj p1)).1.symm
 subst hpq;simp only[DG,C7,if_pos h0,s1,p2,q1,ak];cases p with
 |false=>exact⟨_,rfl,rfl,λh=>absurd h (by decide: ¬ (3:Int)=0)⟩
 |true=>
 simp only[DG];cases c with
 |false=>exact⟨_,rfl,rfl,λh=>absurd h (by decide: ¬ (7:Int)=0)⟩
 |true=>obtain⟨P,m,b,r,e1,e2,e3,e4,e5,_,e7⟩:=X0 s id i s2 s3;simp only[DG,e3,e4,ak];exact⟨r,rfl,rfl,λ_=>⟨trivial,h0,h5,hw.1,s,P,m,b,rfl,e1,e2,e7 hw.1 (by omega),e5⟩⟩
end
section
theorem Z3{s:qQ}{id n:Int}(ok:F3 1048576 s)(hv:Fp s id=some (true,()))(hn:GD s.config id=some (n,())):KS s id=some (n==1||n==2,()):=by
 have hc:=Fz ok.1;obtain⟨v,v1,_⟩:=IJ s.config hc;unfold KS;rw[(FP s.config.replicas id hc.1).2,ak]
 have fm:id∈s.config.replicas↔(n==1||n==2)=true:=by
  unfold GD at hn;simp only[v1,(FP s.config.replicas id hc.1).1,(FP s.config.witnesses id hc.2).1,ak,Ff] at hn;have out: ∀ {k:Int},some (k,())=some (n,())->n=k:=λe=>((Prod.mk.inj (Option.some.inj e)).1).symm;refine brE hn (λev hn=>brE hn (λhe hn=> ?_) λ_ hn=>brE hn (λhr hn=> ?_) λhr hn=> ?_) λev hn=> ?_
  ·rw[out hn];subst ev;exact⟨λ_=>rfl,λ_=>by rw[eq_of_beq he];exact (NK hc v1).2.2.1⟩
  ·rw[out hn];exact⟨λ_=>rfl,λ_=>of_decide_eq_true hr⟩
  ·have hno:id∉s.config.replicas:=of_decide_eq_false hr;refine⟨λh=>absurd h hno,λh=> ?_⟩;refine brE hn (λ_ hn=> ?_) λ_ hn=> ?_
   ·rw[out hn] at h;exact absurd h (by decide)
   ·rw[out hn] at h;exact absurd h (by decide)
  ·rw[out hn];refine⟨λh=> ?_,λh=>absurd h (by decide)⟩;rcases ZT ok hv with e|e
   ·rw[e] at h;cases h
   ·rw[v1] at e;have e:=(Prod.mk.inj (Option.some.inj e)).1;rw[e] at ev;cases ev
 rw[show decide (id∈s.config.replicas)=(n==1||n==2) from by rw[bU];simp only[decide_eq_true_eq];exact fm]
end
section
theorem Yi(x:qN)(ok:F9 1048576 x)(id i m:Int): ∃r,JR x id i m=some (r,())/\JO x id i m=some (r,())/\(r.code=0->m<=r.index):=by
 obtain⟨n,n1,n2,n3⟩:=Wo x ok id;unfold JR JO;simp only[n1,n2,F2,Jr,ak,Ff,Kg];by_cases hn:n=0
 case neg=>simp only[if_neg hn];exact⟨_,rfl,rfl,λh=>absurd h hn⟩
 simp only[if_pos hn];obtain⟨hv,h0,h5⟩:=n3 hn;obtain⟨s,s1,s2,s3⟩:=O5 ok (GK ok hv) ⟨h0,h5⟩;obtain⟨r,r1,_⟩:=Ok s.config id (Fz s2.1);have rep:=Z3 s2 s3 r1;simp only[C7,if_pos h0,s1,r1,rep,ak];cases hw:G9 i 0 2 with
 |false=>exact⟨_,rfl,rfl,λh=>absurd h (by decide: ¬ (1:Int)=0)⟩
 |true=>
 cases hw2:G9 m 0 16 with
 |false=>exact⟨_,rfl,rfl,λh=>absurd h (by decide: ¬ (1:Int)=0)⟩
 |true=>
 simp only[DG];obtain⟨P,mm,b,q,_,_,e3,e4,e5,_,_⟩:=X0 s id i s2 s3;simp only[e3,e4,ak]
 have fin: ∃r:xB,br (decide (s.commit<m)) (some ((⟨11,⟨false,0⟩,0⟩:xB),())) (some (q,()))=some (r,())/\(r.code=0->m<=r.index):=by
  by_cases hc:s.commit<m
  ·rw[decide_eq_true hc];exact⟨_,rfl,λh=>absurd h (by decide: ¬ (11:Int)=0)⟩
  ·rw[decide_eq_false hc];exact⟨q,rfl,λ_=>by omega⟩
 obtain⟨r',f1,f2⟩:=fin;by_cases h1:r=1
 ·simp only[h1,if_true];exact⟨r',f1,f1,f2⟩
 ·simp only[if_neg h1];by_cases h2:r=2
  ·simp only[h2,if_true];exact⟨r',f1,f1,f2⟩
  ·simp only[if_neg h2,show (r==1)=false from beq_eq_false_iff_ne.2 h1,show (r==2)=false from beq_eq_false_iff_ne.2 h2,Bool.or_self,CS];exact⟨_,rfl,rfl,λh=>absurd h (by decide: ¬ (3:Int)=0)⟩
section
variable [dL]
theorem Wv{x:Hd}{l:List Int}(h:ly x=some l)(hl:l.length<=maxLen)(hb: ∀m∈l,0<=m/\m<=255):Tt (λy=>F9 1048576 y.1) (H5 x):=by unfold H5;exact .dn (aab h hl hb) λc y hc hy=> .dn (FS hc _) λc2 _ _ _=> .ip rfl (.ret hy.1)
theorem Wu{x:Hd}{l:List Int}(h:ly x=some l)(hl:l.length<=maxLen)(hb: ∀m∈l,0<=m/\m<=255):Tt (λy=>F9 1048576 y.1) (HM x):=by unfold HM;exact .dn (XS h hl hb) λc1 _ h1 _=> .dn (Q8 h1) λc2 y h2 hy=> .ip rfl (.dn (FS h2 _) λc3 _ h3 _=> .ip rfl (.dn (FS h3 _) λc4 _ h4 _=> .ip rfl (.dn (FS h4 _) λc5 _ h5 _=> .ip rfl (.ret hy.1))))
theorem WW(x:Hd)(l:List Int)(h:ly x=some l)(hl:l.length<=maxLen)(hb: ∀m∈l,0<=m/\m<=255):Oy x=some (true,()):=by
 refine Tt.tru ?_;unfold Oy;refine .bind (Q:=T1) (by unfold Xd;exact .ret trivial) λ_ _=> .br (λ_=> .ret rfl) λ_=> .bind (Wv h hl hb) λa ha=> ?_;obtain⟨r,s1,i1,hr⟩:=Vu a.1 ha a.2.1 a.2.2.1;obtain⟨c,c1,c2⟩:=Uc a.1 ha a.2.1;simp -zeta only[i1,s1,c1,c2,ak,beq_self_eq_true,Bool.and_self,dk,CS]
 extract_lets j20
 have h20:Tt (λy=>y.1=true) j20:=by unfold j20;refine .bind (Wu h hl hb) λb hb2=> ?_;obtain⟨q,q1,q2,q3⟩:=Yi b.1 hb2 b.2.1 b.2.2.1 b.2.2.2.1;simp only[q1,q2,ak,beq_self_eq_true,Bool.and_self,DG,Ff];exact .br (λh0=> .ret (decide_eq_true (q3 (eq_of_beq h0)))) λ_=> .ret rfl
 refine .br (λh0=> ?_) λ_=>h20;obtain⟨cr,hid0,hid5,hi0,s,P,m,b,q1,q2,q3,q4,q5⟩:=hr (eq_of_beq h0);rw[c1] at cr;have cr:=(Prod.mk.inj (Option.some.inj cr)).1;subst cr;have hlt:=yw q1;have rng:0<=a.2.1/\a.2.1< (a.1.servers.length:Int):=by omega
 have hlo:=yw q4;refine .ip rng ?_;simp only[q1,ak,cF,EM];refine .ip (EU (aM _)) (.ip (EU (aM _)) (.ip (EU (aM _)) (.ip (EU (aM _)) ?_)));rw[show Fs _=_ from q2,ak,q3,ak];refine .br nofun λ_=> .ip (by show 0<=a.2.2.1/\a.2.2.1< (m.objects.length:Int);exact⟨hi0,by omega⟩) ?_;show Tt _ ((m.objects[a.2.2.1.toNat]?).bind _);rw[q4,ak,beq_self_eq_true];refine .br nofun λ_=> .ip rng ?_;rw[q5,beq_self_eq_true];exact .br nofun λ_=>h20
end
end
end Go.Proofs.YtkghndikalnipabGreat.En
