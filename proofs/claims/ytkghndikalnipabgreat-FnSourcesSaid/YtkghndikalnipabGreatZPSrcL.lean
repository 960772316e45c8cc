/- Plain laws. -/
import Derived.Test.YtkghndikalnipabGreatZPT5
set_option linter.unusedSimpArgs false
set_option linter.unusedVariables false
namespace Go.Proofs.YtkghndikalnipabGreat.En
open Go
section
theorem Tt.byte{α:Type}{Q:α->Prop}{b:ByteArray}{i:Nat}{k:UInt8->Option α}(hi:i<b.size)(h: ∀x,Tt Q (k x)):Tt Q ((b[i]?).bind k):=by rw[getElem?_pos b i hi];exact h _
theorem Sd(b:Int): (Cu ((([b]:List Int).drop 0).take ([b]:List Int).length)).size=1:=rfl
theorem H9(n:Int)(h:n.natAbs<=1000):Tt (λy=>y.1.size<=1001) (Gy n):=by
 unfold Gy;refine .br (λ_=> .ret (by decide)) λ_=> .bind (.loop (B:=KF) (E:=λe=>e.1.1.size<=1000) (λs=>s.1.2.1.size+s.1.1.natAbs<=1000) (λs=>s.1.1.natAbs) ?_ (by simpa using h)) λy hy=> .br (λ_=> .ip ?_ (.ret ?_)) λ_=> .ret (ba hy (by omega))
 ·rintro⟨⟨n,acc,neg,_⟩,_,_⟩ hs
  have hs:acc.size+n.natAbs<=1000:=hs;refine .br (λh0=> ?_) λ_=> .ret (by show acc.size<=1000;omega);have h0:n≠0:=λe=>by rw[e] at h0;cases h0
  have ha: (Int.tdiv n 10).natAbs=n.natAbs / 10:=Int.natAbs_tdiv n 10;have hw:IntKind.wrap .i64 (Int.tdiv n 10)=Int.tdiv n 10:=of (by omega) (by omega);dsimp only;rw[hw];refine .br (λ_=> .ip ⟨Nat.one_pos,az _⟩ (.ip (by rw[Sd];omega) (.ret ⟨?_,?_⟩))) λ_=> .ip ⟨Nat.one_pos,az _⟩ (.ip (by rw[Sd];omega) (.ret ⟨?_,?_⟩))
  all_goals first
   | (show (_++acc).size+(Int.tdiv n 10).natAbs<=1000;rw[ByteArray.size_append,Sd];omega)
   | (show (Int.tdiv n 10).natAbs<n.natAbs;omega)
 ·show (⟨⟨[45]⟩⟩:ByteArray).size+y.1.1.size<=2 ^ 40;have : (⟨⟨[45]⟩⟩:ByteArray).size=1:=rfl;omega
 ·show ((⟨⟨[45]⟩⟩:ByteArray)++y.1.1).size<=1001;have : (⟨⟨[45]⟩⟩:ByteArray).size=1:=rfl;rw[ByteArray.size_append];omega
theorem ZX{o:Op}(h:ZW o=true): (0<=o.client/\o.client<=2)/\(1<=o.seq/\o.seq<=99)/\(0<=o.object/\o.object<=2)/\(0<=o.value/\o.value<=9)/\(o.kind≠1->0<=o.old/\o.old<=9):=by
 obtain⟨h1,h2,h4⟩:=ZY h;have h3:=Wi (show FD o=some (true,()) by rw[NE,h]);refine⟨Fi.1 h1,Fi.1 h2,h3,Fi.1 h4,λhk=> ?_⟩;have h0:FD o=some (true,()):=by rw[NE,h]
 unfold FD at h0;simp only[FW,ak,h1,h2,h4,Fi.2 h3,dk,CS,beq_eq_false_iff_ne.2 hk] at h0;cases hk2: (o.kind==2) with
 |false=>rw[hk2] at h0;cases h0
 |true=>rw[hk2] at h0;simp only[DG,af,au,and_true] at h0;exact Fi.1 h0
theorem Ws(o:Op):Tt (λy=>y.1.size<=10000) (LR o):=by
 unfold LR;rw[NE,ak,Fc];refine .br (λh=> ?_) λ_=> .ret (by decide);obtain⟨n1,n2,n3,n4,n5⟩:=ZX h;have e1: (⟨⟨[46]⟩⟩:ByteArray).size=1:=rfl;have e2: (⟨⟨[32]⟩⟩:ByteArray).size=1:=rfl;have e3: (⟨⟨[119,114,105,116,101,32]⟩⟩:ByteArray).size=6:=rfl;have e4: (⟨⟨[115,119,97,112,32]⟩⟩:ByteArray).size=5:=rfl;refine .bind (H9 _ (by omega)) λa ha=> .ip (by omega) (.bind (H9 _ (by omega)) λb hb=> .ip (by rw[ByteArray.size_append];omega) (.ip (by simp only[ByteArray.size_append];omega) (.br (λ_=> .ip (by simp only[ByteArray.size_append];omega) (.bind (H9 _ (by omega)) λc hc=> .ip (by simp only[ByteArray.size_append];omega) (.ip (by simp only[ByteArray.size_append];omega) (.bind (H9 _ (by omega)) λd hd=> .ip (by simp only[ByteArray.size_append];omega) (.ret ?_))))) λhk=> ?_)))
 ·show ByteArray.size _<=_;simp only[ByteArray.size_append];omega
 ·have n5:=n5 λe=>by rw[e] at hk;cases hk
  refine .ip (by simp only[ByteArray.size_append];omega) (.bind (H9 _ (by omega)) λc hc=> .ip (by simp only[ByteArray.size_append];omega) (.ip (by simp only[ByteArray.size_append];omega) (.bind (H9 _ (by omega)) λd hd=> .ip (by simp only[ByteArray.size_append];omega) (.ip (by simp only[ByteArray.size_append];omega) (.bind (H9 _ (by omega)) λe he=> .ip (by simp only[ByteArray.size_append];omega) (.ret ?_))))));show ByteArray.size _<=_;simp only[ByteArray.size_append];omega
theorem Vf(l:List sf)(hl:l.length<=maxLen):Tt (λy=>y.1.size<=1000000) (KT l):=by
 obtain⟨b,b1,b2⟩:=N6 hl;unfold KT;rw[b1,ak,Fc];refine .br (λe=> ?_) λ_=> .ret (by decide);have h16:=b2 e;subst e;have hlog:=((Xg l hl).1 b1).2;refine .br (λ_=> .ret (by decide)) λ_=> .bind (.count (B:=KG) (E:=λe=>e.1.1.size<=1000000) l.length (λk (b:ByteArray)=>((l,b,(k:Int),()),(),())) (λk b=>b.size<=k*20000) (λb hb=> .end (EK _) (.ret (by show b.size<=_;omega))) (λk b hk hb=> ?_) ByteArray.empty (bH _)) λy hy=> .ret hy;have sw:=kT hl hk;have e1: (⟨⟨[58]⟩⟩:ByteArray).size=1:=rfl;have e2: (⟨⟨[59]⟩⟩:ByteArray).size=1:=rfl;have hb:b.size<=k*20000:=hb;have hk2:k*20000<=16*20000:=bg _ (by omega);refine .go (EJ.2 hk) (.br (λ_=> .ip (by rw[e2];show b.size+1<=_;omega) (.ip (EI k) (.get (tn hk) λe he _=> .bind (H9 _ ?_) λy hy=> ?_))) λ_=> .ip (EI k) (.get (tn hk) λe he _=> .bind (H9 _ ?_) λy hy=> ?_))
 case refine_1|refine_3=>have:=hlog k hk;unfold YE at this;rw[show l[k]? =some e from he] at this;simp only[ao] at this;have:=Fi.1 this.1;omega
 all_goals
  dsimp only;rw[sw];refine .ip (by first |omega| (simp only[ByteArray.size_append];omega)) (.ip (by simp only[ByteArray.size_append];omega) (.ip (EI k) (.get (tn hk) λe2 _ _=> .bind (Ws e2.op) λz hz=> .ip (by simp only[ByteArray.size_append];omega) (.ret ⟨_,rfl,?_⟩))));simp only[ByteArray.size_append];omega
theorem Wo(b:ByteArray)(hb:b.size<=1000000):Tt T1 (LP b):=by unfold LP;exact .bind (.count (B:=Lp) (E:=λ_=>True) b.size (λk (n:Int)=>((b,n,(k:Int),()),(),())) (λ_ _=>True) (λ_ _=> .end (EK _) (.ret trivial)) (λk n hk _=> .go (EJ.2 hk) (.ip (EI k) (.byte hk λx=> .ret ⟨_,by rw[kT (n:=b.size) (by unfold maxLen;omega) hk],trivial⟩))) 5 trivial) λ_ _=> .ret trivial
theorem W8(l:List sf)(hl:l.length<=maxLen):Tt (λy=>y.1.length<=l.length+1/\y.1.length<=17) (JP l):=by
 obtain⟨b,b1,b2⟩:=N6 hl;unfold JP;rw[b1,ak,Fc];refine .br (λe=> ?_) λ_=> .ret ⟨bH _,bH _⟩;have h16:=b2 e;refine .ip (by simp) (.bind (.count (B:=JI) (E:=λe=>e.2.2.1.length<=l.length+1/\e.2.2.1.length<=17) l.length (λk (b:Int×List Int)=>((l,(),b.1,(k:Int),()),(),b.2,())) (λk b=>b.2.length=k+1) (λb hb=> .end (EK _) (.ret (by show b.2.length<=_/\b.2.length<=_;omega))) (λk b hk hb=> ?_) (11,[11]) rfl) λy hy=> .ret hy);have sw:=kT hl hk;refine .go (EJ.2 hk) ?_;dsimp only;rw[sw];refine .ip ⟨EI k,by omega,Int.ofNat_le.2 hk⟩ (.bind (Vf _ (ba (by rw[ci,bR];omega) hl)) λy hy=> .bind (Wo y.1 hy) λz _=> .ip ?_ (.ret ⟨(_,_),rfl,?_⟩))
 ·rw[be,cn,hb];omega
 ·rw[be,cn,hb]
theorem VZ(l:List sf)(k:Int)(hl:l.length<=maxLen):Tt (λy=>y.1≠ -1->0<=k/\k<=(l.length:Int)) (Kk l k):=by unfold Kk;refine .bind (W8 l hl) λy hy=> ?_;rw[of (n:=(y.1.length:Int)-1) (by omega) (by omega),FW,ak,Fc];refine .br (λh=> ?_) λ_=> .ret λh=>absurd rfl h;have h:=Fi.1 h;exact .ip (by omega) (.get (by omega) λ_ _ _=> .ret λ_=>by omega)
theorem Z1(x:qN)(ok:F0 1048576 x)(a b:Int):Tt (λy=>y.1=true->VC x/\(0<=a/\a<5)/\(0<=b/\b<5)) (K0 x a b):=by
 unfold K0;refine .bind (Li x ok) λv hv=> ?_;rw[Fc];refine .br (λh=> ?_) λ_=> .ret nofun;have vc:=hv h;have h5:=K8 (Fq ok.2.1) vc.sides
 have side:Tt (λy:Bool×Unit=>y.1=true->(0<=a/\a<5)/\(0<=b/\b<5)) (Gv x.sides a b):=by unfold Gv;simp only[vc.sides,FW,ak,DG];refine .br (λha=> .br (λhb=> ?_) λ_=> .ret nofun) λ_=> .ret nofun;have ha:=Fi.1 ha;have hb:=Fi.1 hb;exact .ip ha.1 (.get (by omega) λ_ _ _=> .ip hb.1 (.get (by omega) λ_ _ _=> .ret λ_=>by omega))
 refine .bind side λy hy=> ?_;rw[Fc];refine .br (λh=> ?_) λ_=> .ret nofun;obtain⟨ha,hb⟩:=hy h;refine .br (λ_=> .ret nofun) λ_=> .srv ok vc ha λs _ s2 _=> ?_;obtain⟨n,n1,_⟩:=PE s.config a (Fx s2.1);obtain⟨m,m1,_⟩:=PE s.config b (Fx s2.1);rw[n1,ak,m1];have good: ∀d:Bool,Tt (λy:Bool×Unit=>y.1=true->VC x/\(0<=a/\a<5)/\(0<=b/\b<5)) (some (d,())):=λd=> .ret λ_=>⟨vc,ha,hb⟩
 exact .br (λ_=> .srv ok vc hb λ_ _ _ _=> .br (λ_=> .br (λ_=> .br (λ_=>good _) λ_=>good _) λ_=> .br (λ_=> .br (λ_=>good _) λ_=>good _) λ_=>good _) λ_=>good _) λ_=>good _
theorem aac(x:qN)(ok:F0 1048576 x)(a b:Int):Tt (λy=>0<=y.1->VC x/\(0<=a/\a<5)/\(0<=b/\b<5)/\ ∃s l,x.servers[a.toNat]? =some s/\FB s=some (l,())/\l.length<=16/\y.1<=(l.length:Int)) (I5 x a b):=by
 unfold I5;refine .bind (Z1 x ok a b) λv hv=> ?_;rw[Fc];refine .br (λh=> ?_) λ_=> .ret λh=>absurd h (by decide);obtain⟨vc,ha,hb⟩:=hv h;refine .srv ok vc ha λs s1 s2 s3=> ?_;obtain⟨⟨l,_⟩,l1,l2⟩:=Ph s s2 (Un s2 s3);have l2:l.length<=16:=l2;rw[l1,ak];refine .srv ok vc hb λt _ t2 _=> .srv ok vc hb λu _ u2 _=> .bind (Q:=T1) ?_ λd _=> .bind (Q:=λy=>y.1=true->(t.learned.length:Int)<=(l.length:Int)) ?_ λp hp=> ?_
 ·unfold Jj;exact .bind (VZ _ _ (Fq u2.2.2)) λ_ _=> .ret trivial
 ·unfold JV;refine .br (λhd=> .bind (VZ l _ (by unfold maxLen;omega)) λy hy=> .ret λe=> ?_) λ_=> .ret nofun;have hd:d.1≥0:=of_decide_eq_true hd;have e:=eq_of_beq e;exact (hy (by omega)).2
 ·have tl:=t2.2.2;rw[Fc];refine .br (λe=> .ret λ_=>⟨vc,ha,hb,s,l,s1,l1,l2,?_⟩) λ_=> .ret λ_=>⟨vc,ha,hb,s,l,s1,l1,l2,?_⟩
  ·have:=hp e;show IntKind.wrap .i64 ((l.length:Int)-(t.learned.length:Int))<=_;rw[of (by omega) (by omega)];omega
  ·show IntKind.wrap .i64 ((l.length:Int)-0)<=_;rw[of (by omega) (by omega)];omega
theorem ZH(x:qN)(ok:F0 1048576 x)(a b n:Int):Tt (λy=>Kp x y.1) (I6 x a b n):=by
 unfold I6;rw[(HF x ok).1,ak];refine .bind (aac x ok a b) λy hy=> .br (λ_=> .ret (.self ok)) λh=> ?_;have h: ¬y.1<0:=of_decide_eq_false h;obtain⟨vc,ha,hb,s,l,s1,l1,l2,le⟩:=hy (by omega);rw[FW,ak,Fc];refine .br (λw=> .ip ha.1 ?_) λ_=> .ret (.self ok);have w:=Fi.1 w;rw[s1,ak,l1,ak];dsimp only;have hm: (if n<y.1 then n else y.1)<=y.1/\0<=(if n<y.1 then n else y.1):=by split<;>omega
 generalize (if n<y.1 then n else y.1)=m at hm;rw[of (n:=(l.length:Int)-y.1) (by omega) (by omega),of (n:=(l.length:Int)-y.1+m) (by omega) (by omega)]
 have hl: ((l.drop (0+(0:Int).toNat)).take (((l.length:Int)-y.1+m).toNat-(0:Int).toNat)).length<=1048576:=by rw[ci,bR];omega
 refine .ip (by omega) (.ip (by omega) ?_);rw[PJ hl,ak];exact .at vc.len hb λu _ hu=> .ret ((Kp.self ok).set (s:=⟨u.up,u.intact,u.version,u.epoch,u.config,u.first,u.log,u.commit,(l.drop (0+(0:Int).toNat)).take (((l.length:Int)-y.1+m).toNat-(0:Int).toNat)⟩) ⟨(ok.1.2 u hu).1,(ok.1.2 u hu).2.1,hl⟩ _)
theorem Xk{x y:qN}{n:Int}{r:Option (qN×Int×Unit)}(h:r=some (y,n,())/\F0 1048576 y/\y.servers.length=x.servers.length):Tt (λz=>Kp x z.1) r:=⟨_,h.1,h.2⟩
theorem aam(x:qN)(ok:F0 1048576 x)(e:xx):Tt (λy=>Kp x y.1) (M1 x e):=by obtain⟨_,_,c1⟩:=ZJ x ok e.server;obtain⟨_,_,c2⟩:=X4 x ok e.server;obtain⟨_,_,c3⟩:=aad x ok e.server;obtain⟨_,_,c4⟩:=aag x ok e.server e.n;obtain⟨_,_,c5⟩:=XZ x ok e.n;unfold M1;refine .br (λ_=> .bind (X3 x ok _ _) λy hy=> .ret hy) λ_=> .br (λ_=> .bind (ZC x ok _ _) λn hn=> ?_) λ_=> .br (λ_=> .bind (Ql x ok) λy hy=> .ret hy) λ_=> .br (λ_=> .bind (Xk c1) λy hy=> .ret hy) λ_=> .br (λ_=> .bind (Xk c2) λy hy=> .ret hy) λ_=> .br (λ_=> .bind (Xk c3) λy hy=> .ret hy) λ_=> .br (λ_=> .bind (Xk c4) λy hy=> .ret hy) λ_=> .br (λ_=> .bind (Xk c5) λy hy=> .ret hy) λ_=> .br (λ_=> .bind (ZE x ok _) λy hy=> .ret hy) λ_=> .br (λ_=> .bind (ZH x ok _ _ _) λy hy=> .br (λ_=> .ret hy) λ_=> .ret hy) λ_=> .br (λ_=> .bind (Yi x ok _) λy hy=> .ret hy) λ_=> .br (λ_=> .bind (Vd x ok _) λy hy=> .ret hy) λ_=> .br (λ_=> .bind (YW x ok _) λy hy=> .ret hy) λ_=> .bind (YT x ok _ _) λy hy=> .ret hy;rw[Fc];refine .br (λ_=> .bind (Qz x ok _ hn) λy hy=> .ret hy) λ_=> ?_;rw[(HF x ok).1];exact .ret (.self ok)
theorem aan(k:Int):Tt T1 (M2 k):=by
 unfold M2
 repeat first |exact .ret trivial|refine .br (λ_=> ?_) λ_=> ?_
theorem Yj(e:xx):Tt T1 (IC e):=by
 unfold IC;simp only[FW,ak,NE];refine .br (λ_=> .ret trivial) λ_=> .br (λ_=> .ret trivial) λ_=> .br (λ_=> .ret trivial) λ_=> .br (λ_=> .ret trivial) λ_=> .bind (aan _) λ_ _=> ?_
 repeat first |exact .ret trivial|refine .br (λ_=> ?_) λ_=> ?_
theorem WU(x:qN)(ok:F0 1048576 x)(e:xx):Tt (λy=>Kp x y.1) (LV x e):=by unfold LV;rw[(HF x ok).1];refine .bind (Li x ok) λ_ _=> .br (λ_=> .ret (Kp.self ok)) λ_=> .bind (Yj e) λ_ _=> .br (λ_=> .ret (Kp.self ok)) λ_=> .br (λ_=> .bind (Yn x ok _ _) λy hy=> .ret hy) λ_=> .br (λ_=> ?_) λ_=> .bind (aam x ok e) λy hy=> .ret hy;exact .bind (Q:=λy=>Kp x y.1) ⟨_,rfl,Kp.self ok⟩ λy hy=> .bind (VA x ok _ _) λ_ _=> .ret hy
theorem VT(x:qN)(ok:F0 1048576 x)(l:List xx)(hl:l.length<=1048576):Tt (λy=>Kp x y.1/\y.2.1.length<=l.length) (KW x l):=by
 have lm:=Fq hl;unfold KW;rw[(HF x ok).1,ak];refine .bind (.count (B:=KJ) (E:=λe=> ∃ (c:qN) (r:List xB),Kp x c/\r.length<=l.length/\e=(((),(),(),()),(fz,fc c,()),r,c.servers,c.sides,c.master.configs,c.places,())) l.length (λk (b:qN×List xB)=>((l,(),(),(),(k:Int),()),(fz,fc b.1,()),b.2,b.1.servers,b.1.sides,b.1.master.configs,b.1.places,())) (λk b=>Kp x b.1/\b.2.length<=k) (λb hb=> .end (EK _) (.ret ⟨b.1,b.2,hb.1,hb.2,rfl⟩)) (λk b hk hb=> .go (EJ.2 hk) (.br (λ_=> .ip (EI k) (.get (tn hk) λe _ _=> .bind (WU b.1 hb.1.1 e) λy hy=> .ip ?_ (.ret ⟨(y.1,b.2++ [y.2.1]),by rw[kT lm hk],hb.1.trans hy,?_⟩))) λ_=> .ret ⟨b.1,b.2,hb.1,by omega,rfl⟩)) (x,[]) ⟨.self ok,az _⟩) ?_
 ·show (b.2++ [y.2.1]).length*32<=2 ^ 40;rw[be,cn];omega
 ·rw[be,cn];omega
 ·rintro _ ⟨c,r,hc,hr,rfl⟩
  exact .ret ⟨hc,hr⟩
end
section
section
variable [dL]
theorem Tt.dn{α β:Type}{Q:α->Prop}{Q':β->Prop}{r:Option (List qO×α)}{k:List qO×α->Option β}(h:Dn Q r)(hk: ∀c a,FO c->Q a->Tt Q' (k ([c],a))):Tt Q' (r.bind k):=by obtain⟨c,a,rfl,h1,h2⟩:=h;exact hk c a h1 h2
theorem Dn.tt{α β:Type}{Q:α->Prop}{Q':β->Prop}{r:Option α}{k:α->Option (List qO×β)}(h:Tt Q r)(hk: ∀a,Q a->Dn Q' (k a)):Dn Q' (r.bind k):=by obtain⟨a,rfl,h⟩:=h;exact hk a h
theorem W9{α:Type}{Q:α->Prop}{r:Option (List qO×α)}(h:Tt (λy=> ∃c,y.1= [c] /\FO c/\Q y.2) r):Dn Q r:=by obtain⟨⟨_,a⟩,rfl,c,rfl,h1,h2⟩:=h;exact⟨c,a,rfl,h1,h2⟩
theorem Yc{c:qO}(h:FO c):Dn (λy:List Int×Unit=>Mw y.1) (K1 [c]):=by
 refine W9 ?_;unfold K1;refine .bind (.count (B:=Nv) (E:=λe=> ∃c,e.2.2.1= [c] /\FO c/\Mw e.2.2.2.1) 5 (λk (b:qO×List Int)=>(((),(),(k:Int),()),(),[b.1],b.2,())) (λk b=>FO b.1/\b.2.length<=k/\SS b.2/\ ∀y∈b.2,0<=y/\y< (k:Int)) (λb hb=> .end (EK _) (.ret ⟨b.1,rfl,hb.1,NV hb.2.2.1 hb.2.2.2⟩)) (λk b hk hb=> ?_) (c,[]) ⟨h,az _,List.Pairwise.nil,nofun⟩) λy hy=> .ret hy;obtain⟨h1,h2,h3,h4⟩:=hb;have sw:=kT (n:=5) (by decide) hk;have stay: ∀y∈b.2,0<=y/\y< ((k+1:Nat):Int):=λy hy=>by have:=h4 y hy;omega
 refine .go (show (k:Int)<5 by omega) (.dn (Ib h1 2) λc1 _ hc _=> .ip rfl (.br (λ_=> .ip (by show (b.2++ [(k:Int)]).length*8<=2 ^ 40;rw[be,cn];omega) (.ret ⟨(c1,b.2++ [(k:Int)]),by rw[sw],hc,by rw[be,cn];omega,?_,λy hy=> ?_⟩)) λ_=> .ret ⟨(c1,b.2),by rw[sw],hc,ES h2,h3,stay⟩))
 ·exact EY.2 ⟨h3,E0 _ _,λy hy z hz=>by rw[aJ.1 hz];exact (h4 y hy).2⟩
 ·rcases bi.1 hy with hy|hy
  ·exact stay y hy
  ·rw[aJ.1 hy];omega
omit [dL] in
theorem X2{l:List vB}(h5:l.length=5)(h: ∀p∈l,(0<=p.rack/\p.rack<=9)/\(0<=p.capacity/\p.capacity<=9)/\0<=p.load/\p.load<=99):FG l=some (true,()):=by
 have lm:l.length<=maxLen:=by unfold maxLen;omega
 have fm:Tt (λy:Bool×Unit=>y.1=true) (FG l):=by
  unfold FG;refine .bind (.count (B:=HE) (E:=Sum.elim (λ_=>False) λe=>e.1.1=l) l.length (λk (_:Unit)=>((l,(k:Int),()),(),())) (λ_ _=>True) (λ_ _=> .end (EK _) (.ret rfl)) (λk _ hk _=> .go (EJ.2 hk) (.ip (EI k) (.get (tn hk) λp _ hp=> ?_))) () trivial) λy hy=> ?_
  ·obtain⟨h1,_⟩:=h p hp;rw[FW,Fi.2 h1,ak];refine .br (λh=>by cases h) λ_=> .ip (EI k) (.get (tn hk) λq _ hq=> ?_);obtain⟨_,h2,_⟩:=h q hq;rw[FW,Fi.2 h2,ak];refine .br (λh=>by cases h) λ_=> .ip (EI k) (.get (tn hk) λr _ hr=> ?_);obtain⟨_,_,h3⟩:=h r hr;rw[FW,Fi.2 h3,ak];exact .br (λh=>by cases h) λ_=> .ret ⟨(),by rw[kT lm hk],trivial⟩
  ·cases y with
   |inl y=>exact hy.elim
   |inr y=>refine .ret ?_;show ((y.1.1.length:Int)==5)=true;rw[show y.1.1=l from hy,h5];rfl
 obtain⟨⟨b,_⟩,e,rfl⟩:=fm;exact e
theorem Wj{c:qO}(h:FO c):Dn (λy:List vB×Unit=>y.1.length=5/\FG y.1=some (true,())) (Ks [c]):=by
 refine W9 ?_;unfold Ks;refine .bind (.count (B:=Lq) (E:=λe=> ∃c,e.2.2.1= [c] /\FO c/\e.2.2.2.1.length=5/\FG e.2.2.2.1=some (true,())) 5 (λk (b:qO×List vB)=>(((),(),(k:Int),()),(),[b.1],b.2,())) (λk b=>FO b.1/\b.2.length=k/\ ∀p∈b.2,(0<=p.rack/\p.rack<=9)/\(0<=p.capacity/\p.capacity<=9)/\0<=p.load/\p.load<=99) (λb hb=> .end (EK _) (.ret ⟨b.1,rfl,hb.1,hb.2.1,X2 hb.2.1 hb.2.2⟩)) (λk b hk hb=> ?_) (c,[]) ⟨h,rfl,nofun⟩) λy hy=> .ret hy;obtain⟨h1,h2,h3⟩:=hb;refine .go (show (k:Int)<5 by omega) (.dn (Jn h1 (n:=4) (by omega)) λc1 x g1 hx=> .ip rfl (.dn (Jn g1 (n:=4) (by omega)) λc2 y g2 hy=> .ip rfl (.dn (Jn g2 (n:=4) (by omega)) λc3 z g3 hz=> .ip rfl (.ip ?_ (.ret ⟨(c3,b.2++ [⟨x.1,1+y.1,z.1⟩]),?_,g3,by rw[be,cn,h2],λp hp=> ?_⟩)))))
 ·rw[be,cn,show List.length _=k from h2];omega
 ·dsimp only;rw[kT (n:=5) (by decide) hk,of (n:=1+y.1) (by omega) (by omega)]
 ·rcases bi.1 hp with hp|hp
  ·exact h3 p hp
  ·rw[aJ.1 hp];show (0<=x.1/\x.1<=9)/\(0<=1+y.1/\1+y.1<=9)/\0<=z.1/\z.1<=99;omega
omit [dL] in
theorem Wh(v:Int):Tt (λy=>F1 1048576 y.1) (JB v):=by
 unfold JB;rw[FW,ak];have ok: ∀v:Int,F1 1048576 ⟨true,true,v,0,⟨0,0,[],[]⟩,0,[],0,[]⟩:=λ_=>⟨⟨bH _,bH _⟩,bH _,bH _⟩
 exact .br (λ_=> .ret (ok _)) λ_=> .ret (ok _)
omit [dL] in
theorem ZU(l:List vB)(hl:l.length<=1048576):Tt (λy=>F0 1048576 y.1/\(FG l=some (true,())->y.1.servers.length=5)) (JU l):=by
 obtain⟨v,v1,_⟩:=MT l (Fq hl);unfold JU;rw[v1,ak,Fc];refine .br (λe=> .ip (by decide) (.ip ?_ (.bind (.count (B:=JJ) (E:=λe=> ∃S:List qQ,S.length=5/\(∀s∈S,F1 1048576 s)/\e=(((),(),()),(fz,(0,(),(),(),0,3,0,0,0,(),()),()),S,List.replicate (5:Int).toNat (0:Int),[] ++l,())) 5 (λk (S:List qQ)=>(((),(),(k:Int),()),(fz,(0,(),(),(),0,3,0,0,0,(),()),()),S,List.replicate (5:Int).toNat (0:Int),[] ++l,())) (λk S=>S.length=k/\ ∀s∈S,F1 1048576 s) (λS hS=> .end (EK _) (.ret ⟨S,hS.1,hS.2,rfl⟩)) (λk S hk hS=> .go (show (k:Int)<5 by omega) (.bind (Wh 1) λs hs=> .ip ?_ (.ret ⟨S++ [s.1],by rw[kT (n:=5) (by decide) hk],by rw[be,cn,hS.1],λt ht=> ?_⟩))) [] ⟨rfl,nofun⟩) ?_))) λ_=> .ret ⟨⟨⟨bH _,nofun⟩,bH _,⟨bH _,nofun⟩,bH _⟩,λe=>by simp_all⟩
 ·rw[bK];omega
 ·rw[be,cn,show List.length _=k from hS.1];omega
 ·exact (bi.1 ht).elim (hS.2 t) λe=>by rw[aJ.1 e];exact hs
 ·rintro _ ⟨S,h5,hS,rfl⟩
  exact .ret ⟨⟨⟨by show S.length<=_;omega,hS⟩,by show (List.replicate (5:Int).toNat (0:Int)).length<=_;decide,⟨bH _,nofun⟩,hl⟩,λ_=>h5⟩
omit [dL] in
theorem W4{e p:Int}{R W:List Int}(he:1<=e/\e<=20)(hR:Mw R)(hW:Mw W)(hp:p∈R)(hd: ∀y∈R,y∉W):Fh ⟨e,p,R,W⟩=some (true,()):=by have hr:=hR.len;have hw:=hW.len;unfold Fh;simp only[FW,Fi.2 he,ak,DG,(OE hR).1,(OE hW).1,(FN R p (by unfold maxLen;omega)).1,decide_eq_true hp,Qk R W hR (by unfold maxLen;omega)];rw[List.filter_eq_nil_iff.2 λy hy h=>hd y hy (of_decide_eq_true h)];rfl
theorem ZI{c:qO}(h:FO c)(e:Int):Dn (λy:om×Unit=>y.1.epoch=e/\y.1.replicas.length<=5/\y.1.witnesses.length<=5/\(1<=e/\e<=20->Fh y.1=some (true,()))) (Js [c] e):=by
 unfold Js;refine .bind (Jn h (n:=5) (by omega)) λc1 p h1 hp=> .iteP rfl (.bind (Yc h1) λc2 l h2 hl=> .iteP rfl ?_);obtain⟨r,r1,r2,r3,_⟩:=YR l.1 p.1 (by have:=hl.len;omega) hl.pair;rw[show HL _ _=_ from r1,ak]
 have fm: ∀R:List Int,Mw R->p.1∈R->Dn (λy:om×Unit=>y.1.epoch=e/\y.1.replicas.length<=5/\y.1.witnesses.length<=5/\(1<=e/\e<=20->Fh y.1=some (true,()))) ((Gb [c2] 2).bind λy5=>iteP (y5.1.length=([c2]:List qO).length) (br y5.2.1 ((K1 y5.1).bind λy6=>iteP (y6.1.length=y5.1.length) ((FP y6.2.1 R).bind λy7=>br (decide ((y7.1.length:Int)>0)) (iteP (0<=(0:Int)/\(0:Int)<=(1:Int)/\(1:Int)<=((y7.1.length:Nat):Int)) (iteP ((0+(0:Int).toNat)=0/\((1:Int).toNat-(0:Int).toNat)<=y7.1.length) (some (y6.1,(⟨e,p.1,R,(y7.1.take ((1:Int).toNat-(0:Int).toNat))⟩:om),())) (iteP ((0+(0:Int).toNat)+((1:Int).toNat-(0:Int).toNat)<=y7.1.length) (some (y6.1,(⟨e,p.1,R,((y7.1.drop (0+(0:Int).toNat)).take ((1:Int).toNat-(0:Int).toNat))⟩:om),())) none)) none) (some (y6.1,(⟨e,p.1,R,([]:List Int)⟩:om),()))) none) (some (y5.1,(⟨e,p.1,R,([]:List Int)⟩:om),()))) none):=λR hR hpR=>by
  have nil:Mw [] :=λk hk=>by simp at hk
  have rl:=hR.len;refine .bind (Ib h2 2) λc3 _ h3 _=> .iteP rfl (.br (λ_=> .bind (Yc h3) λc4 w h4 hw=> .iteP rfl ?_) λ_=> .ret h3 ⟨rfl,rl,bH _,λhe=>W4 he hR nil hpR λ_ _=>nofun⟩);rw[show FP _ _=_ from Sx w.1 R hw (by unfold maxLen;omega),ak];have hf:=hw.filter λx=> !decide (x∈R)
  have hn: ∀y∈R,y∉w.1.filter λx=> !decide (x∈R):=λy hy h=>by have:=(EU.1 h).2;simp[hy] at this
  have fl:=hf.len;generalize w.1.filter (λx=> !decide (x∈R))=f at hf hn fl;refine .br (λhpos=> ?_) λ_=> .ret h4 ⟨rfl,rl,bH _,λhe=>W4 he hR nil hpR λ_ _=>nofun⟩;have hpos: (f.length:Int)>0:=of_decide_eq_true hpos;refine .iteP (by show (0:Int)<=0/\(0:Int)<=1/\(1:Int)<=(f.length:Int);omega) (.iteP (by show 0=0/\1<=f.length;omega) (.ret h4 ⟨rfl,rl,?_,λhe=>W4 he hR ?_ hpR λy hy h=>hn y hy (bJ h)⟩))
  ·show (f.take _).length<=5;rw[ci];omega
  ·exact NV (hf.pair.sublist (List.take_sublist _ _)) λy hy=>KB hf y (bJ hy)
 have ra:Mw r:=NV r2 λy hy=>((r3 y).1 hy).elim (λe=>by rw[e];exact hp) (KB hl y);refine .br (λ_=>fm [p.1] (NV (E0 _ _) λy hy=>by rw[aJ.1 hy];exact hp) (aJ.2 rfl)) λ_=>fm r ra ((r3 _).2 (.inl rfl))
omit [dL] in
theorem ZS{M:kB}(h:MS 1048576 M)(hl:M.configs.length<=1000){c:om}(hc:GO 1048576 c):MS 1048576 ⟨M.configs++ [c],M.activated⟩:=⟨by show (M.configs++ [c]).length<=_;rw[be,cn];omega,λd hd=>(bi.1 hd).elim (h.2 d) λe=>by rw[aJ.1 e];exact hc⟩
theorem Z6{c:qO}(h:FO c):Dn (λy:List Int×Unit=>y.1.length<=6) (OI [c]):=by
 unfold OI;refine .bind (Yc h) λc1 l h1 hl=> .iteP rfl (.bind (Ib h1 _) λc2 _ h2 _=> .iteP rfl (.br (λ_=> .bind (GY h2 (by simp)) λc3 x h3 _=> .iteP rfl ?_) λ_=> .ret h2 ?_))
 ·have:=hl.len;refine .iteP ?_ (.ret h3 ?_)
  ·show (l.1++ [x.1]).length*8<=2 ^ 40;rw[be,cn];omega
  ·show (l.1++ [x.1]).length<=6;rw[be,cn];omega
 ·exact ba hl.len (by omega)
theorem W3{c:qO}(h:FO c):Dn (λy:om×Unit=>GO 1048576 y.1) (OK [c]):=by
 unfold OK;refine .bind (F9 h _) λc1 e h1 _=> .iteP rfl (.bind (ZI h1 _) λc2 g h2 hg=> .iteP rfl (.bind (F9 h2 _) λc3 x h3 _=> .iteP rfl ?_));obtain⟨_,g1,g2,_⟩:=hg;have ok:GO 1048576 g.1:=⟨by omega,by omega⟩
 refine .br (λ_=> .bind (GY h3 (by simp)) λc4 _ h4 _=> .iteP rfl (.ret h4 ok)) λ_=> .br (λ_=> .bind (F9 h3 _) λc4 _ h4 _=> .iteP rfl (.ret h4 ok)) λ_=> .br (λ_=> .bind (Z6 h3) λc4 l h4 hl=> .iteP rfl (.ret h4 ⟨by show l.1.length<=_;omega,ok.2⟩)) λ_=> .br (λ_=> .bind (Z6 h3) λc4 l h4 hl=> .iteP rfl (.ret h4 ⟨ok.1,by show l.1.length<=_;omega⟩)) λ_=> .ret h3 ok
theorem aar{c:qO}(h:FO c):Dn (λy:kB×Unit=>MS 1048576 y.1/\y.1.configs.length<=10) (NY [c]):=by
 unfold NY;refine .bind (Jn h (n:=5) (by omega)) λc1 n h1 hn=> .iteP rfl (W9 (.bind (.loop (B:=Nt) (E:=λe=> ∃c,e.2.2.1= [c] /\FO c/\MS 1048576 ⟨e.2.2.2.1,e.2.1.2.1.2.1⟩/\e.2.2.2.1.length<=10) (λs=> ∃ (c:qO) (M:kB) (k:Int),s=(((),(),(),k,()),(((),0,()),((),M.activated,()),()),[c],M.configs,())/\FO c/\MS 1048576 M/\0<=k/\M.configs.length+k.toNat<=10) (λs=>s.1.2.2.2.1.toNat) ?_ ⟨c1,⟨[],0⟩,n.1,rfl,h1,⟨bH _,nofun⟩,hn.1,by show 0+n.1.toNat<=10;omega⟩) λy hy=> .ret hy))
 rintro _ ⟨c,M,k,rfl,hc,hM,h0,hl⟩
 refine .br (λhk=> ?_) λ_=> .ret ⟨c,rfl,hc,hM,by show M.configs.length<=10;omega⟩;have hk:k>0:=of_decide_eq_true hk;have hw:IntKind.wrap .i64 (k-1)=k-1:=of (by omega) (by omega);refine .dn (ZI hc _) λc2 g h2 hg=> .ip rfl (.bind (Q1 M hM g.1 ⟨by omega,by omega⟩) λm hm=> .dn (Ib h2 _) λc3 _ h3 _=> .ip rfl (.br (λ_=> .bind (RA m.1 hm.1 _) λa ha=> .ret ⟨⟨c3,a.1,k-1,by dsimp only;rw[hw],h3,ha.1,by omega,by omega⟩,?_⟩) λ_=> .ret ⟨⟨c3,m.1,k-1,by dsimp only;rw[hw],h3,hm.1,by omega,by omega⟩,?_⟩))
 all_goals
  show (IntKind.wrap .i64 (k-1)).toNat<k.toNat;rw[hw];omega
theorem aao{c:qO}(h:FO c):Dn (λy:kB×Unit=>MS 1048576 y.1) (NX [c]):=by unfold NX;refine .bind (aar h) λc1 m h1 hm=> .iteP rfl (.bind (F9 h1 _) λc2 _ h2 _=> .iteP rfl (.br (λ_=> .bind (GY h2 (by simp)) λc3 _ h3 _=> .iteP rfl (.ret h3 hm.1)) λ_=> .br (λ_=> .bind (W3 h2) λc3 g h3 hg=> .iteP rfl (.iteP ?_ (.ret h3 (ZS hm.1 (by omega) hg)))) λ_=> .ret h2 hm.1));show (m.1.configs++ [g.1]).length*64<=2 ^ 40;rw[be,cn];omega
omit [dL] in
theorem X0(c:om)(h:GO maxLen c)(hv:Fh c=some (true,())):Tt (λy=>0<y.1.length/\y.1.length<=10) (Gi c):=by unfold Gi;rw[hv,ak];refine .br (λh=>by cases h) λ_=> ?_;obtain⟨a1,a2,a3,_⟩:=LL h hv;have l1:=a1.len;have l2:=a2.len;obtain⟨r,r1,_,r4,r5⟩:=X6 c.replicas c.witnesses (by omega) (by omega);rw[r1];exact .ret ⟨List.length_pos_of_mem ((r4 c.primary).2 (.inl a3)),by show r.length<=10;omega⟩
omit [dL] in
theorem aaq(l:List sf)(e:Int)(hl:l.length<=1048576):Tt (λy=>y.1.length<=1048576) (N1 l e):=by
 unfold N1;refine .bind (.count (B:=Nu) (E:=λy=> ∃k:Nat,k<=l.length/\y=((l,(k:Int),()),(),())) l.length (λk (_:Unit)=>((l,e,(k:Int),()),(),())) (λ_ _=>True) (λ_ _=> .end (EK _) (.ret ⟨l.length,az _,rfl⟩)) (λk _ hk _=> .go (EJ.2 hk) (.ip (EI k) (.get (tn hk) λ_ _ _=> .br (λ_=> .ret ⟨(),by rw[kT (Fq hl) hk],trivial⟩) λ_=> .ret ⟨k,Nat.le_of_lt hk,rfl⟩))) () trivial) ?_
 rintro _ ⟨k,hk,rfl⟩
 have h2: ((l.drop (0:Int).toNat).take ((k:Int).toNat-(0:Int).toNat)).length<=1048576:=by rw[ci,bR];omega
 exact .ip ⟨c9 _,EI k,Int.ofNat_le.2 hk⟩ (.bind (Q:=λy=>y.1.length<=1048576) ⟨_,PJ h2,h2⟩ λy hy=> .ret hy)
theorem YU{c:qO}(h:FO c):Dn (λy:qQ×Int×Unit=>F1 1048576 y.1) (KZ [c]):=by
 unfold KZ;refine .bind (F9 h _) λc1 _ h1 _=> .iteP rfl (.tt (Wh _) λs hs=> .bind (Jn h1 (n:=3) (by omega)) λc2 e h2 he=> .iteP rfl (.bind (ZI h2 _) λc3 g h3 hg=> .iteP rfl ?_));have hw:IntKind.wrap .i64 (1+e.1)=1+e.1:=of (by omega) (by omega);obtain⟨g0,g1,g2,g3⟩:=hg;have g3:=g3 (by rw[hw];omega);have okc:GO 1048576 g.1:=⟨by omega,by omega⟩
 refine .tt (X0 g.1 (Fx okc) g3) λm hm=> .bind (Jn h3 (n:=(m.1.length:Int)) (by omega)) λc4 i h4 hi=> .iteP rfl (.iteP hi (.get (by show i.1.toNat<m.1.length;omega) λz _=> .bind (Ib h4 _) λc5 _ h5 _=> .iteP rfl ?_))
 have fin: ∀ (c6:qO) (t:qQ),FO c6->F1 1048576 t-> ∀up:Bool,Dn (λy:qQ×Int×Unit=>F1 1048576 y.1) ((Gb [c6] 4).bind λy46=>iteP (y46.1.length=([c6]:List qO).length) (br y46.2.1 ((Fe y46.1 3).bind λy47=>iteP (y47.1.length=y46.1.length) ((Hx (⟨up,t.intact,t.version,t.epoch,t.config,t.first,t.log,t.commit,t.learned⟩:qQ) (IntKind.wrap .i64 (4+y47.2.1))).bind λy48=>some (y47.1,y48.1,z,())) none) (some (y46.1,(⟨up,t.intact,t.version,t.epoch,t.config,t.first,t.log,t.commit,t.learned⟩:qQ),z,()))) none):=λc6 t h6 ht up=>.bind (Ib h6 _) λc7 _ h7 _=> .iteP rfl (.br (λ_=> .bind (F9 h7 _) λc8 _ h8 _=> .iteP rfl (.tt (U1 ⟨up,t.intact,t.version,t.epoch,t.config,t.first,t.log,t.commit,t.learned⟩ _ ht) λu hu=> .ret h8 hu)) λ_=> .ret h7 ht)
 rw[Fc];refine .br (λ_=> .bind (Ib h5 _) λc6 _ h6 _=> .iteP rfl (.br (λ_=>fin c6 s.1 h6 hs _) λ_=>fin c6 s.1 h6 hs _)) λ_=> .bind (Xx h5) λc6 l h6 hl=> .iteP rfl (.tt (aaq l.1 _ (by omega)) λl2 hl2=> .tt (Uv s.1 g.1 z l2.1 hs okc hl2) λt ht=> .bind (Ib h6 _) λc7 _ h7 _=> .iteP rfl (.br (λ_=>fin c7 t.1 h7 ht _) λ_=>fin c7 t.1 h7 ht _))
theorem WV{c:qO}(h:FO c):Dn (λy:qQ×Int×Unit=>F1 1048576 y.1) (N0 [c]):=by unfold N0;refine .bind (YU h) λc1 s h1 hs=> .iteP rfl (.bind (F9 h1 _) λc2 _ h2 _=> .iteP rfl ?_);refine .br (λ_=> .bind (GY h2 (by simp)) λc3 _ h3 _=> .iteP rfl (.ret h3 hs)) λ_=> .br (λ_=> .bind (GY h2 (by simp)) λc3 _ h3 _=> .iteP rfl (.ret h3 hs)) λ_=> .br (λ_=> .bind (W3 h2) λc3 g h3 hg=> .iteP rfl (.ret h3 ⟨hg,hs.2⟩)) λ_=> .br (λ_=> .bind (GY h2 (by simp)) λc3 _ h3 _=> .iteP rfl (.ret h3 hs)) λ_=> .br (λ_=> .bind (GY h2 (by simp)) λc3 _ h3 _=> .iteP rfl (.ret h3 hs)) λ_=> .br (λ_=> .bind (F9 h2 _) λc3 _ h3 _=> .iteP rfl (.ret h3 hs)) λ_=> .br (λ_=> .bind (WF h2) λc3 l h3 hl=> .iteP rfl (.ret h3 ⟨hs.1,by show l.1.length<=_;omega,hs.2.2⟩)) λ_=> .ret h2 hs
theorem Ya{c:qO}(h:FO c):Dn (λy:List Int×Unit=>y.1.length<=5) (N2 [c]):=by
 unfold N2;refine .bind (Yb h) λc1 l h1 hl=> .iteP rfl (.bind (F9 h1 _) λc2 _ h2 _=> .iteP rfl (.br (λ_=> ?_) λ_=> .br (λ_=> .bind (GY h2 (by simp)) λc3 x h3 _=> .iteP rfl (.iteP ?_ (.get ?_ λ_ _=> .ret h3 ?_))) λ_=> .ret h2 (Nat.le_of_eq hl)))
 ·have hl:l.1.length=5:=hl;refine .iteP (by show (0:Int)<=1/\(1:Int)<=(l.1.length:Int)/\(l.1.length:Int)<=(l.1.length:Int);omega) ?_;rw[C7,if_neg (by intro h;exact absurd h.1 (by decide))];refine .iteP (by show 0+(1:Int).toNat+((l.1.length:Int).toNat-(1:Int).toNat)<=l.1.length;omega) (.ret h2 ?_);show ((l.1.drop (0+(1:Int).toNat)).take ((l.1.length:Int).toNat-(1:Int).toNat)).length<=5;rw[ci,bR];omega
 ·have hl:l.1.length=5:=hl;show (0:Int)<=1/\(1:Int)< (l.1.length:Int);omega
 ·have hl:l.1.length=5:=hl;show (1:Int).toNat<l.1.length;omega
 ·show (l.1.set _ _).length<=5;rw[EL];exact Nat.le_of_eq hl
theorem WO{c:qO}(h:FO c):Dn (λy:List vB×Unit=>y.1.length<=5) (PQ [c]):=by
 unfold PQ;refine .bind (Wj h) λc1 l h1 hl=> .iteP rfl (.bind (F9 h1 _) λc2 _ h2 _=> .iteP rfl ?_);have hl:l.1.length=5:=hl.1;refine .br (λ_=> ?_) λ_=> .br (λ_=> .bind (GY h2 (by simp)) λc3 x h3 _=> .iteP rfl (.iteP (by show (0:Int)<=0/\(0:Int)< (l.1.length:Int);omega) (.get (by show (0:Int).toNat<l.1.length;omega) λ_ _=> .ret h3 ?_))) λ_=> .br (λ_=> .bind (GY h2 (by simp)) λc3 x h3 _=> .iteP rfl (.iteP (by show (0:Int)<=1/\(1:Int)< (l.1.length:Int);omega) (.get (by show (1:Int).toNat<l.1.length;omega) λ_ _=> .ret h3 ?_))) λ_=> .ret h2 (Nat.le_of_eq hl)
 ·refine .iteP (by show (0:Int)<=1/\(1:Int)<=(l.1.length:Int)/\(l.1.length:Int)<=(l.1.length:Int);omega) ?_;rw[C7,if_neg (by intro h;exact absurd h.1 (by decide))];refine .iteP (by show 0+(1:Int).toNat+((l.1.length:Int).toNat-(1:Int).toNat)<=l.1.length;omega) (.ret h2 ?_);show ((l.1.drop (0+(1:Int).toNat)).take ((l.1.length:Int).toNat-(1:Int).toNat)).length<=5;rw[ci,bR];omega
 ·show (l.1.set _ _).length<=5;rw[EL];omega
 ·show (l.1.set _ _).length<=5;rw[EL];omega
theorem W5{c:qO}(h:FO c):Dn (λy:qN×Unit=>F0 1048576 y.1/\y.1.servers.length=5) (JY [c]):=by unfold JY;refine .bind (Wj h) λc1 l h1 hl=> .iteP rfl (.tt (ZU l.1 (by have:=hl.1;omega)) λx hx=> .bind (Wr h1 (by omega) (by omega)) λc2 e h2 he=> .iteP rfl (.tt (VT x.1 hx.1 e.1 (by omega)) λy hy=> .ret h2 ⟨hy.1.1,hy.1.2.trans (hx.2 hl.2)⟩))
theorem Va{c:qO}(h:FO c):Dn (λy:qN×Unit=>F0 1048576 y.1/\y.1.servers.length=5) (N3 [c]):=by unfold N3;refine .bind (W5 h) λc1 x h1 hx=> .iteP rfl (.bind (F9 h1 _) λc2 _ h2 _=> .iteP rfl ?_);obtain⟨⟨x1,x2,x3,x4⟩,x5⟩:=hx;refine .br (λ_=> .bind (GY h2 (by simp)) λc3 _ h3 _=> .iteP rfl (.ret h3 ⟨⟨x1,x2,x3,x4⟩,x5⟩)) λ_=> .br (λ_=> .bind (Ya h2) λc3 l h3 hl=> .iteP rfl (.ret h3 ⟨⟨x1,by show l.1.length<=_;omega,x3,x4⟩,x5⟩)) λ_=> .br (λ_=> .bind (aao h2) λc3 m h3 hm=> .iteP rfl (.ret h3 ⟨⟨x1,x2,hm,x4⟩,x5⟩)) λ_=> .br (λ_=> .bind (GY h2 (by simp)) λc3 _ h3 _=> .iteP rfl (.ret h3 ⟨⟨x1,x2,x3,x4⟩,x5⟩)) λ_=> .br (λ_=> .bind (Xw h2) λc3 _ h3 _=> .iteP rfl (.ret h3 ⟨⟨x1,x2,x3,x4⟩,x5⟩)) λ_=> .br (λ_=> .bind (WO h2) λc3 l h3 hl=> .iteP rfl (.ret h3 ⟨⟨x1,x2,x3,by show l.1.length<=_;omega⟩,x5⟩)) λ_=> .br (λ_=> .bind (WV h2) λc3 s h3 hs=> .iteP rfl (.bind (Jn h3 (n:=5) (by omega)) λc4 i h4 hi=> .iteP rfl (.iteP (by show 0<=i.1/\i.1< (x.1.servers.length:Int);rw[x5];exact hi) (.get (by show i.1.toNat<x.1.servers.length;omega) λ_ _=> .ret h4 ⟨⟨Pt x1 hs _,x2,x3,x4⟩,by show (x.1.servers.set _ _).length=5;rw[EL];exact x5⟩)))) λ_=> .ret h2 ⟨⟨x1,x2,x3,x4⟩,x5⟩
omit [dL] in
end
end
section
theorem Tt.tru{r:Option (Bool×Unit)}(h:Tt (λy=>y.1=true) r):r=some (true,()):=by obtain⟨⟨b,_⟩,e,rfl⟩:=h;exact e
theorem Tt.is{α:Type}{Q:α->Prop}{r:Option α}{a:α}(h:Tt Q r)(e:r=some a):Q a:=by obtain⟨b,h1,h2⟩:=h;rw[e] at h1;cases h1;exact h2
end
section

end
section
theorem ZG(x:qN)(ok:F0 1048576 x)(hv:Fd x=some (true,())){id:Int}{S:List Int}(hS:F4 x id=some (S,()))(h5:S.length<=5)(hr: ∀z∈S,0<=z/\z<5):Tt (λy=>(S= [] ->y.1= -1)/\(S≠ [] ->y.1∈S)) (F3 x id):=by
 have vc:=FX ok hv;have lm:S.length<=maxLen:=by unfold maxLen;omega
 unfold F3;rw[hS,ak];refine .bind (.count (B:=Gn) (E:=λe=>(S= [] ->e.1.1= -1)/\(S≠ [] ->e.1.1∈S)) S.length (λk (b:Int)=>(((),b,(),(k:Int),()),(fx x,()),(S,()))) (λk b=>(k=0/\b= -1)\/(0<k/\b∈S)) (λb hb=> .end (EK _) (.ret ⟨λh=> ?_,λh=> ?_⟩)) (λk b hk hb=> ?_) (-1) (.inl ⟨rfl,rfl⟩)) λe h=> .ret h
 ·rcases hb with hb|hb
  ·exact hb.2
  ·rw[h] at hb;exact absurd hb.1 (dI _)
 ·rcases hb with hb|hb
  ·exact absurd (bh hb.1) h
  ·exact hb.2
 ·have c1: (k:Int)< (S.length:Int):=by omega
  have c2: (0:Int)<=(k:Int)/\(k:Int)< (S.length:Int):=by omega
  have hm:=dq hk;have hz:=hr _ hm;have hg:S[k]? =some S[k] :=an hk;generalize S[k] =z at hz hg hm;obtain⟨s,s1,s2,_⟩:=Lo ok vc hz;simp only[Gn,fx,j6,C7,if_pos c1,if_pos c2,cO,hg,ak,if_pos hz.1,s1,kT lm hk];have new: ∃b',(((),z,(),((k+1:Nat):Int),()),(fx x,()),S,())=(((),b',(),((k+1:Nat):Int),()),(fx x,()),S,())/\((k+1=0/\b'= -1)\/(0<k+1/\b'∈S)):=⟨z,rfl,.inr ⟨Nat.succ_pos k,hm⟩⟩
  rcases hb with ⟨_,rfl⟩| ⟨_,hb⟩
  ·exact .ret new
  ·have hb2:=hr _ hb;obtain⟨t,t1,_⟩:=Lo ok vc hb2;simp only[if_neg (show ¬b<0 by omega),if_pos hb2.1,t1,ak];split
   ·exact .ret new
   ·exact .ret ⟨b,rfl,.inr ⟨Nat.succ_pos k,hb⟩⟩
theorem UO(x:qN)(ok:F0 1048576 x): ∃c d,Fp x.master=some (c,d,())/\FI x.master=some (c,d,())/\GO maxLen c:=by obtain⟨c,d,d1,d2,d3⟩:=PI x.master x.master.activated ok.2.2.1;unfold Fp FI;rw[d1,d2];exact⟨c,d,rfl,rfl,d3⟩
theorem aat(x:qN)(ok:F0 1048576 x)(id:Int)(h24:Hp x id=some (false,()))(hh:FA x id=some (false,())):
  F4 x id=some ([],())/\GM x id=some ([],())/\Gd x id=some ([],false,())/\GX x id=some ([],false,())/\Gz x id=some ([],false,())/\H4 x id=some ([],false,())/\F3 x id=some (-1,())/\GL x id=some (-1,()):=by
 obtain⟨v,v1,v2⟩:=F6 x ok;obtain⟨c,d,d1,d2,_⟩:=UO x ok
 have hw:v=false\/HK id 0 4=false:=by
  unfold Hp at h24;simp only[v1,FW,ak] at h24;cases v with
  |false=>exact .inl rfl
  |true=>simp only[DG,af,au,and_true] at h24;exact .inr h24
 have a1:F4 x id=some ([],()):=by
  unfold F4;rw[d1,ak]
  rw[show J4 ((id,(),(),(),d,0,()),(fx x,(c.epoch,c.primary,(),(),()),()),([],c.replicas,c.witnesses,()))=some (((),()),(),([],())) from me (by
   simp only[Gp,fx,j6,show (⟨x.now,x.servers,x.sides,(⟨x.master.configs,x.master.activated⟩:kB),x.masterUp,(⟨x.lease.epoch,x.lease.holder,x.lease.ends⟩:vz),x.places⟩:qN)=x from rfl,v1,FW,ak];split
   ·cases d with
    |false=>rfl
    |true=>
     rcases hw with rfl|hw
     ·rfl
     ·rw[hw];cases v<;>rfl
   ·rfl)]
  rfl
 have a3:Gd x id=some ([],false,()):=by
  unfold Gd;rw[d1,ak]
  rw[show J5 ((id,(),(),false,(),d,0,()),(fx x,(c.epoch,c.primary,(),(),()),()),([],c.replicas,c.witnesses,()))=some (((),false,()),(),([],())) from me (by
   simp only[Gq,fx,j6,show (⟨x.now,x.servers,x.sides,(⟨x.master.configs,x.master.activated⟩:kB),x.masterUp,(⟨x.lease.epoch,x.lease.holder,x.lease.ends⟩:vz),x.places⟩:qN)=x from rfl,v1,FW,ak];split
   ·cases d with
    |false=>rfl
    |true=>
     rcases hw with rfl|hw
     ·rfl
     ·rw[hw];cases v<;>rfl
   ·rfl)]
  rfl
 have a2:GM x id=some ([],()):=by unfold GM;rw[d2,ak,hh,ak];cases d<;>rfl
 refine⟨a1,a2,a3,?_,?_,?_,?_,?_⟩
 ·unfold GX;rw[d2,ak,hh,ak];cases d<;>rfl
 ·unfold Gz;rw[v1,FW,ak,ak];rcases hw with rfl|hw
  ·rfl
  ·rw[hw];cases v<;>rfl
 ·unfold H4;rw[hh];rfl
 ·unfold F3;rw[a1,ak,show L9 (((),-1,(),0,()),(fx x,()),([],()))=some ((-1,()),(),()) from me rfl];rfl
 ·unfold GL;rw[a2,ak,show L8 (((),-1,(),(([]:List Int).length:Int),0,()),(fx x,()),([],()))=some ((-1,()),(),()) from me rfl];rfl
theorem Ye(x:qN)(ok:F0 1048576 x)(id:Int): ∃S n l b w f,F4 x id=some (S,())/\GM x id=some (S,())/\F3 x id=some (n,())/\GL x id=some (n,())/\Gz x id=some (l,b,())/\H4 x id=some (l,b,())/\Gd x id=some (w,f,())/\GX x id=some (w,f,())/\
  S.length<=5/\l.length<=1048576/\w.length<=1048576/\(S≠ [] ->b=true/\n∈S)/\(b=false->S= [] /\f=false):=by
 obtain⟨g,g1,g2,g3⟩:=RC x id ok;cases g with
 |false=>obtain⟨a1,a2,a3,a4,a5,a6,a7,a8⟩:=aat x ok id g1 g2;exact⟨[],-1,[],false,[],false,a1,a2,a7,a8,a5,a6,a3,a4,bH _,bH _,bH _,λh=>absurd rfl h,λ_=>⟨rfl,rfl⟩⟩
 |true=>
  obtain⟨hv,hid⟩:=g3 rfl;obtain⟨S,s1,s2,s3,s4⟩:=Sy ok ok hv hv (.refl x) hid;obtain⟨n,n1,n2,n3⟩:=RB ok ok hv hv (.refl x) hid;obtain⟨l,b,l1,l2,l3⟩:=WW ok ok hv hv (.refl x) hid;obtain⟨w,f,w1,w2,w3⟩:=SA ok ok hv hv (.refl x) hid;have hn:=(ZG x ok hv s1 s3 s4).is n1
  have hb: (S≠ [] ->b=true)/\(b=false->f=false):=by
   unfold Gz at l1;simp only[hv,FW,Fi.2 (show 0<=id/\id<=4 by omega),n1,w1,ak,Fc,DG] at l1;cases h:x.master.activated==0 with
   |true=>rw[h] at l1;simp only[DG,af,au] at l1;rw[<-l1.2.1];exact⟨λ_=>rfl,nofun⟩
   |false=>
    rw[h] at l1;simp only[CS,j6] at l1;by_cases hn0:n≥0
    ·obtain⟨t,t1,t2,_⟩:=Lo ok (FX ok hv) (by omega:0<=n/\n<5);rw[if_pos hn0,C7,if_pos hn0,t1,ak,(KL _ t2.2.1).1,ak] at l1;simp only[af,au] at l1;rw[<-l1.2.1];exact⟨λ_=>rfl,nofun⟩
    ·rw[if_neg hn0] at l1;simp only[af,au] at l1;refine⟨λh=> ?_,λh=>l1.2.1.trans h⟩;exact absurd (s4 _ (hn.2 h)).1 hn0
  refine⟨S,n,l,b,w,f,s1,s2,n1,n2,l1,l2,w1,w2,s3,l3,by omega,λh=>⟨hb.1 h,hn.2 h⟩,λh=>⟨?_,hb.2 h⟩⟩;exact Classical.byContradiction λh2=>by rw[hb.1 h2] at h;cases h
end
section
theorem SB(a b:List sf)(ha:a.length<=maxLen): ∃n:Nat,HT a b=some ((n:Int),())/\n<=a.length/\n<=b.length/\a.take n=b.take n/\(n<a.length->n<b.length->a[n]? ≠b[n]?):=by
 rcases Na (B:=GF) a.length (λk=>((a,b,(k:Int),()),(),())) ((((a.length:Nat):Int),()),(),()) (λk=>(((k:Int),()),(),())) (λk=>decide (a[k]? ≠b[k]?))
  (by simp only[GF];rw[j6,if_neg (by omega)])
  (λk hk=>by
    have c1: (k:Int)< (a.length:Int):=by omega
    have c2: (0:Int)<=(k:Int):=by omega
    by_cases hk':k<b.length
    ·have c3: (k:Int)< (b.length:Int):=by omega
     simp only[GF,Xa,j6,C7,if_pos c1,if_pos c2,if_pos c3,cO,an hk,an hk',ak,kT ha hk];by_cases h:a[k] =b[k]<;>simp[h]
    ·have c3: ¬ (k:Int)< (b.length:Int):=by omega
     simp only[GF,j6,if_pos c1,if_neg c3,an hk,cz (show b.length<=k by omega)];simp) with ⟨k1,k2⟩| ⟨i,hi,k1,k2,k3⟩
 ·have eq: ∀k,k<a.length->a[k]? =b[k]? :=λk hk=>by simpa using k2 k hk
  have hl:a.length<=b.length:=by
   rcases bu a.length with h|h
   ·omega
   ·have:=eq (a.length-1) (by omega);rw[an (by omega)] at this;have:=yw this.symm;omega
  refine⟨a.length,?_,az _,hl,?_,λh=>absurd h (dI _)⟩
  ·unfold HT;rw[show Kx ((a,b,0,()),(),())=_ from k1];rfl
  ·refine bE λk=> ?_;rw[bz,bz];split
   ·exact eq k (by assumption)
   ·rfl
 ·have eq: ∀k,k<i->a[k]? =b[k]? :=λk hk=>by simpa using k3 k hk
  have hl:i<=b.length:=by
   rcases bu i with h|h
   ·omega
   ·have:=eq (i-1) (by omega);rw[an (by omega)] at this;have:=yw this.symm;omega
  refine⟨i,?_,by omega,hl,?_,λ_ _=>by simpa using k2⟩
  ·unfold HT;rw[show Kx ((a,b,0,()),(),())=_ from k1];rfl
  ·refine bE λk=> ?_;rw[bz,bz];split
   ·exact eq k (by assumption)
   ·rfl
theorem Yv{a b:List sf}(ha:a.length<=maxLen)(h: ∀ (i:Nat) e,a[i]? =some e->b[i]? =some e):Jp a b=some (true,()):=by
 obtain⟨n,n1,n2,n3,_,n5⟩:=SB a b ha
 have hn:n=a.length:=by
  rcases Nat.lt_or_eq_of_le n2 with hlt|e
  ·have hb:=h n _ (an hlt);exact absurd ((an hlt).trans hb.symm) (n5 hlt (yw hb))
  ·exact e
 unfold Jp;rw[n1,ak,hn,beq_self_eq_true]
theorem QJ(a:List sf)(ha:a.length<=maxLen):Jp a a=some (true,()):=Yv ha λ_ _ h=>h
theorem X7(a:List Int)(ha:a.length<=maxLen):L5 a a=some (true,()):=by
 refine Tt.tru ?_;unfold L5;rw[beq_self_eq_true,dk,CS];refine .bind (.count (B:=Lr) (E:=Sum.elim (λ_=>False) λ_=>True) a.length (λk (_:Unit)=>((a,a,(k:Int),()),(),())) (λ_ _=>True) (λ_ _=> .end (EK _) (.ret trivial)) (λk _ hk _=> ?_) () trivial) λe he=> ?_
 ·refine .go (EJ.2 hk) (.ip (EI k) (.get (tn hk) λz z1 _=> .ip (EI k) (.get (tn hk) λw w1 _=> ?_)));obtain rfl:z=w:=Option.some.inj (z1.symm.trans w1);rw[beq_self_eq_true];exact .ret ⟨(),by rw[kT ha hk],trivial⟩
 ·cases e with
  |inl e=>exact he.elim
  |inr e=>exact .ret rfl
end
section
theorem Vh(x:qN)(ok:F0 1048576 x):Eh (Gf x) (Ge x):=by
 obtain⟨v,v1,v2⟩:=F6 x ok;cases v with
 |true=>exact Wu x ok v1
 |false=>obtain⟨c,d,d1,d2,_⟩:=UO x ok;unfold Gf Ge;simp only[d1,d2,v1,v2,ak,Fc,CS];exact⟨false,rfl,rfl⟩
theorem ZM(l:List Int)(y:Int)(hl:l.length<=maxLen)(h:y∈l):Us l y=some (true,()):=by
 refine Tt.tru ?_;unfold Us;refine .bind (.count (B:=Ru) (E:=Sum.elim (λe=>e.1.1=true) λ_=>False) l.length (λk (_:Unit)=>((l,y,(k:Int),()),(),())) (λk _=> ∀ (j:Nat),j<k->l[j]? ≠some y) (λ_ hJ=> .end (EK _) (.ret ?_)) (λk _ hk hJ=> ?_) () λj h=>absurd h (Nat.not_lt_zero j)) λe he=> ?_
 ·obtain⟨j,hj,e⟩:=aQ h;exact hJ j hj (by rw[an hj,e])
 ·refine .go (EJ.2 hk) (.ip (EI k) (.get (tn hk) λz z1 _=> .br (λ_=> .ret rfl) λhn=> .ret ⟨(),by rw[kT hl hk],λj hj=> ?_⟩));by_cases hjk:j=k
  ·subst hjk;intro e;have z1:l[j]? =some z:=z1;rw[z1] at e;exact ne_of_beq_false hn (Option.some.inj e)
  ·exact hJ j (by omega)
 ·cases e with
  |inl e=>exact .ret he
  |inr e=>exact he.elim
section
variable [dL]
theorem Ve{x:Hd}{l:List Int}(h:ly x=some l)(hl:l.length<=maxLen)(hb: ∀m∈l,0<=m/\m<=255):Tt (λy=>F0 1048576 y.1) (Ig x):=by unfold Ig OH;exact .bind (Q:=λy=>F0 1048576 y.1) (.dn (ZV h hl hb) λc1 _ h1 _=> .dn (Va h1) λc2 y h2 hy=> .ip rfl (.dn (F9 h2 _) λc3 _ h3 _=> .ip rfl (.ret hy.1))) λy hy=> .ret hy
theorem U5(x:Hd)(l:List Int)(h:ly x=some l)(hl:l.length<=maxLen)(hb: ∀m∈l,0<=m/\m<=255):My x=some (true,()):=by
 refine Tt.tru ?_;unfold My;refine .bind (Q:=T1) (by unfold Xc;exact .ret trivial) λ_ _=> .br (λ_=> .ret rfl) λ_=> .bind (Ve h hl hb) λa ha=> ?_;obtain⟨S,n,L,b,w,f,s1,s2,n1,n2,l1,l2,w1,w2,S5,lL,wL,hne,hnb⟩:=Ye a.1 ha a.2.1;obtain⟨i,i1,i2⟩:=Vh a.1 ha;have mS:S.length<=maxLen:=by unfold maxLen;omega
 simp only[s1,s2,n1,n2,l1,l2,w1,w2,i1,i2,QJ L (Fq lL),QJ w (Fq wL),X7 S mS,ak,beq_self_eq_true,dk,CS];cases S with
 |nil=>
  show Tt _ (br b _ _);cases b with
  |true=>exact .ret rfl
  |false=>rw[(hnb rfl).2];exact .ret rfl
 |cons z S=>obtain⟨rfl,hn⟩:=hne (by simp);rw[ZM _ n mS hn];exact .go (by simp) (.ret rfl)
end
end
end Go.Proofs.YtkghndikalnipabGreat.En
