/- Plain laws. -/
import Derived.Test.YtkghndikalnipabGreatZPT5
set_option linter.unusedSimpArgs false
set_option linter.unusedVariables false
namespace Go.Proofs.YtkghndikalnipabGreat.En
open Go
section
theorem Tt.byte{α:Type}{Q:α->Prop}{b:ByteArray}{i:Nat}{k:UInt8->Option α}(hi:i<b.size)(h: ∀x,Tt Q (k x)):Tt Q ((b[i]?).bind k):=by rw[getElem?_pos b i hi];exact h _
theorem SE(b:Int): (Cu ((([b]:List Int).drop 0).take ([b]:List Int).length)).size=1:=rfl
theorem Io(n:Int)(h:n.natAbs<=1000):Tt (λy=>y.1.size<=1001) (GB n):=by
 unfold GB;refine .br (λ_=> .ret (by decide)) λ_=> .bind (.loop (B:=K5) (E:=λe=>e.1.1.size<=1000) (λs=>s.1.2.1.size+s.1.1.natAbs<=1000) (λs=>s.1.1.natAbs) ?_ (by simpa using h)) λy hy=> .br (λ_=> .ip ?_ (.ret ?_)) λ_=> .ret (ba hy (by omega))
 ·rintro⟨⟨n,acc,neg,_⟩,_,_⟩ hs
  have hs:acc.size+n.natAbs<=1000:=hs;refine .br (λh0=> ?_) λ_=> .ret (by show acc.size<=1000;omega);have h0:n≠0:=λe=>by rw[e] at h0;cases h0
  have ha: (Int.tdiv n 10).natAbs=n.natAbs / 10:=Int.natAbs_tdiv n 10;have hw:IntKind.wrap .i64 (Int.tdiv n 10)=Int.tdiv n 10:=of (by omega) (by omega);dsimp only;rw[hw];refine .br (λ_=> .ip ⟨Nat.one_pos,az _⟩ (.ip (by rw[SE];omega) (.ret ⟨?_,?_⟩))) λ_=> .ip ⟨Nat.one_pos,az _⟩ (.ip (by rw[SE];omega) (.ret ⟨?_,?_⟩))
  all_goals first
   | (show (_++acc).size+(Int.tdiv n 10).natAbs<=1000;rw[ByteArray.size_append,SE];omega)
   | (show (Int.tdiv n 10).natAbs<n.natAbs;omega)
 ·show (⟨⟨[45]⟩⟩:ByteArray).size+y.1.1.size<=2 ^ 40;have : (⟨⟨[45]⟩⟩:ByteArray).size=1:=rfl;omega
 ·show ((⟨⟨[45]⟩⟩:ByteArray)++y.1.1).size<=1001;have : (⟨⟨[45]⟩⟩:ByteArray).size=1:=rfl;rw[ByteArray.size_append];omega
theorem aai{o:Op}(h:opB o=true): (0<=o.client/\o.client<=2)/\(1<=o.seq/\o.seq<=99)/\(0<=o.object/\o.object<=2)/\(0<=o.value/\o.value<=9)/\(o.kind≠1->0<=o.old/\o.old<=9):=by
 obtain⟨h1,h2,h4⟩:=aaj h;have h3:=WJ (show FL o=some (true,()) by rw[NU,h]);refine⟨Ft.1 h1,Ft.1 h2,h3,Ft.1 h4,λhk=> ?_⟩;have h0:FL o=some (true,()):=by rw[NU,h]
 unfold FL at h0;simp only[Gn,ak,h1,h2,h4,Ft.2 h3,dk,CS,beq_eq_false_iff_ne.2 hk] at h0;cases hk2: (o.kind==2) with
 |false=>rw[hk2] at h0;cases h0
 |true=>rw[hk2] at h0;simp only[DG,af,au,and_true] at h0;exact Ft.1 h0
theorem WU(o:Op):Tt (λy=>y.1.size<=10000) (L9 o):=by
 unfold L9;rw[NU,ak,Fh];refine .br (λh=> ?_) λ_=> .ret (by decide);obtain⟨n1,n2,n3,n4,n5⟩:=aai h;have e1: (⟨⟨[46]⟩⟩:ByteArray).size=1:=rfl;have e2: (⟨⟨[32]⟩⟩:ByteArray).size=1:=rfl;have e3: (⟨⟨[119,114,105,116,101,32]⟩⟩:ByteArray).size=6:=rfl;have e4: (⟨⟨[115,119,97,112,32]⟩⟩:ByteArray).size=5:=rfl;refine .bind (Io _ (by omega)) λa ha=> .ip (by omega) (.bind (Io _ (by omega)) λb hb=> .ip (by rw[ByteArray.size_append];omega) (.ip (by simp only[ByteArray.size_append];omega) (.br (λ_=> .ip (by simp only[ByteArray.size_append];omega) (.bind (Io _ (by omega)) λc hc=> .ip (by simp only[ByteArray.size_append];omega) (.ip (by simp only[ByteArray.size_append];omega) (.bind (Io _ (by omega)) λd hd=> .ip (by simp only[ByteArray.size_append];omega) (.ret ?_))))) λhk=> ?_)))
 ·show ByteArray.size _<=_;simp only[ByteArray.size_append];omega
 ·have n5:=n5 λe=>by rw[e] at hk;cases hk
  refine .ip (by simp only[ByteArray.size_append];omega) (.bind (Io _ (by omega)) λc hc=> .ip (by simp only[ByteArray.size_append];omega) (.ip (by simp only[ByteArray.size_append];omega) (.bind (Io _ (by omega)) λd hd=> .ip (by simp only[ByteArray.size_append];omega) (.ip (by simp only[ByteArray.size_append];omega) (.bind (Io _ (by omega)) λe he=> .ip (by simp only[ByteArray.size_append];omega) (.ret ?_))))));show ByteArray.size _<=_;simp only[ByteArray.size_append];omega
theorem VE(l:List sf)(hl:l.length<=maxLen):Tt (λy=>y.1.size<=1000000) (Lh l):=by
 obtain⟨b,b1,b2⟩:=Ov hl;unfold Lh;rw[b1,ak,Fh];refine .br (λe=> ?_) λ_=> .ret (by decide);have h16:=b2 e;subst e;have hlog:=((XG l hl).1 b1).2;refine .br (λ_=> .ret (by decide)) λ_=> .bind (.count (B:=K6) (E:=λe=>e.1.1.size<=1000000) l.length (λk (b:ByteArray)=>((l,b,(k:Int),()),(),())) (λk b=>b.size<=k*20000) (λb hb=> .end (EK _) (.ret (by show b.size<=_;omega))) (λk b hk hb=> ?_) ByteArray.empty (bH _)) λy hy=> .ret hy;have sw:=kT hl hk;have e1: (⟨⟨[58]⟩⟩:ByteArray).size=1:=rfl;have e2: (⟨⟨[59]⟩⟩:ByteArray).size=1:=rfl;have hb:b.size<=k*20000:=hb;have hk2:k*20000<=16*20000:=bg _ (by omega);refine .go (EJ.2 hk) (.br (λ_=> .ip (by rw[e2];show b.size+1<=_;omega) (.ip (EI k) (.get (tn hk) λe he _=> .bind (Io _ ?_) λy hy=> ?_))) λ_=> .ip (EI k) (.get (tn hk) λe he _=> .bind (Io _ ?_) λy hy=> ?_))
 case refine_1|refine_3=>have:=hlog k hk;unfold YW at this;rw[show l[k]? =some e from he] at this;simp only[ao] at this;have:=Ft.1 this.1;omega
 all_goals
  dsimp only;rw[sw];refine .ip (by first |omega| (simp only[ByteArray.size_append];omega)) (.ip (by simp only[ByteArray.size_append];omega) (.ip (EI k) (.get (tn hk) λe2 _ _=> .bind (WU e2.op) λz hz=> .ip (by simp only[ByteArray.size_append];omega) (.ret ⟨_,rfl,?_⟩))));simp only[ByteArray.size_append];omega
theorem WQ(b:ByteArray)(hb:b.size<=1000000):Tt T1 (L7 b):=by unfold L7;exact .bind (.count (B:=LN) (E:=λ_=>True) b.size (λk (n:Int)=>((b,n,(k:Int),()),(),())) (λ_ _=>True) (λ_ _=> .end (EK _) (.ret trivial)) (λk n hk _=> .go (EJ.2 hk) (.ip (EI k) (.byte hk λx=> .ret ⟨_,by rw[kT (n:=b.size) (by unfold maxLen;omega) hk],trivial⟩))) 5 trivial) λ_ _=> .ret trivial
theorem Xv(l:List sf)(hl:l.length<=maxLen):Tt (λy=>y.1.length<=l.length+1/\y.1.length<=17) (Kg l):=by
 obtain⟨b,b1,b2⟩:=Ov hl;unfold Kg;rw[b1,ak,Fh];refine .br (λe=> ?_) λ_=> .ret ⟨bH _,bH _⟩;have h16:=b2 e;refine .ip (by simp) (.bind (.count (B:=J5) (E:=λe=>e.2.2.1.length<=l.length+1/\e.2.2.1.length<=17) l.length (λk (b:Int×List Int)=>((l,(),b.1,(k:Int),()),(),b.2,())) (λk b=>b.2.length=k+1) (λb hb=> .end (EK _) (.ret (by show b.2.length<=_/\b.2.length<=_;omega))) (λk b hk hb=> ?_) (11,[11]) rfl) λy hy=> .ret hy);have sw:=kT hl hk;refine .go (EJ.2 hk) ?_;dsimp only;rw[sw];refine .ip ⟨EI k,by omega,Int.ofNat_le.2 hk⟩ (.bind (VE _ (ba (by rw[ci,bR];omega) hl)) λy hy=> .bind (WQ y.1 hy) λz _=> .ip ?_ (.ret ⟨(_,_),rfl,?_⟩))
 ·rw[be,cn,hb];omega
 ·rw[be,cn,hb]
theorem Wo(l:List sf)(k:Int)(hl:l.length<=maxLen):Tt (λy=>y.1≠ -1->0<=k/\k<=(l.length:Int)) (KL l k):=by unfold KL;refine .bind (Xv l hl) λy hy=> ?_;rw[of (n:=(y.1.length:Int)-1) (by omega) (by omega),Gn,ak,Fh];refine .br (λh=> ?_) λ_=> .ret λh=>absurd rfl h;have h:=Ft.1 h;exact .ip (by omega) (.get (by omega) λ_ _ _=> .ret λ_=>by omega)
theorem aan(x:qN)(ok:FS 1048576 x)(a b:Int):Tt (λy=>y.1=true->VC x/\(0<=a/\a<5)/\(0<=b/\b<5)) (Lq x a b):=by
 unfold Lq;refine .bind (K0 x ok) λv hv=> ?_;rw[Fh];refine .br (λh=> ?_) λ_=> .ret nofun;have vc:=hv h;have h5:=Ly (Fu ok.2.1) vc.sides
 have side:Tt (λy:Bool×Unit=>y.1=true->(0<=a/\a<5)/\(0<=b/\b<5)) (Gw x.sides a b):=by unfold Gw;simp only[vc.sides,Gn,ak,DG];refine .br (λha=> .br (λhb=> ?_) λ_=> .ret nofun) λ_=> .ret nofun;have ha:=Ft.1 ha;have hb:=Ft.1 hb;exact .ip ha.1 (.get (by omega) λ_ _ _=> .ip hb.1 (.get (by omega) λ_ _ _=> .ret λ_=>by omega))
 refine .bind side λy hy=> ?_;rw[Fh];refine .br (λh=> ?_) λ_=> .ret nofun;obtain⟨ha,hb⟩:=hy h;refine .br (λ_=> .ret nofun) λ_=> .srv ok vc ha λs _ s2 _=> ?_;obtain⟨n,n1,_⟩:=M6 s.config a (Fl s2.1);obtain⟨m,m1,_⟩:=M6 s.config b (Fl s2.1);rw[n1,ak,m1];have good: ∀d:Bool,Tt (λy:Bool×Unit=>y.1=true->VC x/\(0<=a/\a<5)/\(0<=b/\b<5)) (some (d,())):=λd=> .ret λ_=>⟨vc,ha,hb⟩
 exact .br (λ_=> .srv ok vc hb λ_ _ _ _=> .br (λ_=> .br (λ_=> .br (λ_=>good _) λ_=>good _) λ_=> .br (λ_=> .br (λ_=>good _) λ_=>good _) λ_=>good _) λ_=>good _) λ_=>good _
theorem aaz(x:qN)(ok:FS 1048576 x)(a b:Int):Tt (λy=>0<=y.1->VC x/\(0<=a/\a<5)/\(0<=b/\b<5)/\ ∃s l,x.servers[a.toNat]? =some s/\FZ s=some (l,())/\l.length<=16/\y.1<=(l.length:Int)) (Jn x a b):=by
 unfold Jn;refine .bind (aan x ok a b) λv hv=> ?_;rw[Fh];refine .br (λh=> ?_) λ_=> .ret λh=>absurd h (by decide);obtain⟨vc,ha,hb⟩:=hv h;refine .srv ok vc ha λs s1 s2 s3=> ?_;obtain⟨⟨l,_⟩,l1,l2⟩:=Pz s s2 (UN s2 s3);have l2:l.length<=16:=l2;rw[l1,ak];refine .srv ok vc hb λt _ t2 _=> .srv ok vc hb λu _ u2 _=> .bind (Q:=T1) ?_ λd _=> .bind (Q:=λy=>y.1=true->(t.learned.length:Int)<=(l.length:Int)) ?_ λp hp=> ?_
 ·unfold JE;exact .bind (Wo _ _ (Fu u2.2.2)) λ_ _=> .ret trivial
 ·unfold Km;refine .br (λhd=> .bind (Wo l _ (by unfold maxLen;omega)) λy hy=> .ret λe=> ?_) λ_=> .ret nofun;have hd:d.1≥0:=of_decide_eq_true hd;have e:=eq_of_beq e;exact (hy (by omega)).2
 ·have tl:=t2.2.2;rw[Fh];refine .br (λe=> .ret λ_=>⟨vc,ha,hb,s,l,s1,l1,l2,?_⟩) λ_=> .ret λ_=>⟨vc,ha,hb,s,l,s1,l1,l2,?_⟩
  ·have:=hp e;show IntKind.wrap .i64 ((l.length:Int)-(t.learned.length:Int))<=_;rw[of (by omega) (by omega)];omega
  ·show IntKind.wrap .i64 ((l.length:Int)-0)<=_;rw[of (by omega) (by omega)];omega
theorem Z2(x:qN)(ok:FS 1048576 x)(a b n:Int):Tt (λy=>Kp x y.1) (Jo x a b n):=by
 unfold Jo;rw[(GM x ok).1,ak];refine .bind (aaz x ok a b) λy hy=> .br (λ_=> .ret (.self ok)) λh=> ?_;have h: ¬y.1<0:=of_decide_eq_false h;obtain⟨vc,ha,hb,s,l,s1,l1,l2,le⟩:=hy (by omega);rw[Gn,ak,Fh];refine .br (λw=> .ip ha.1 ?_) λ_=> .ret (.self ok);have w:=Ft.1 w;rw[s1,ak,l1,ak];dsimp only;have hm: (if n<y.1 then n else y.1)<=y.1/\0<=(if n<y.1 then n else y.1):=by split<;>omega
 generalize (if n<y.1 then n else y.1)=m at hm;rw[of (n:=(l.length:Int)-y.1) (by omega) (by omega),of (n:=(l.length:Int)-y.1+m) (by omega) (by omega)]
 have hl: ((l.drop (0+(0:Int).toNat)).take (((l.length:Int)-y.1+m).toNat-(0:Int).toNat)).length<=1048576:=by rw[ci,bR];omega
 refine .ip (by omega) (.ip (by omega) ?_);rw[Of hl,ak];exact .at vc.len hb λu _ hu=> .ret ((Kp.self ok).set (s:=⟨u.up,u.intact,u.version,u.epoch,u.config,u.first,u.log,u.commit,(l.drop (0+(0:Int).toNat)).take (((l.length:Int)-y.1+m).toNat-(0:Int).toNat)⟩) ⟨(ok.1.2 u hu).1,(ok.1.2 u hu).2.1,hl⟩ _)
theorem XJ{x y:qN}{n:Int}{r:Option (qN×Int×Unit)}(h:r=some (y,n,())/\FS 1048576 y/\y.servers.length=x.servers.length):Tt (λz=>Kp x z.1) r:=⟨_,h.1,h.2⟩
theorem aaJ(x:qN)(ok:FS 1048576 x)(e:xx):Tt (λy=>Kp x y.1) (Nh x e):=by obtain⟨_,_,c1⟩:=Z4 x ok e.server;obtain⟨_,_,c2⟩:=Yo x ok e.server;obtain⟨_,_,c3⟩:=aaA x ok e.server;obtain⟨_,_,c4⟩:=aaC x ok e.server e.n;obtain⟨_,_,c5⟩:=Yi x ok e.n;unfold Nh;refine .br (λ_=> .bind (Yn x ok _ _) λy hy=> .ret hy) λ_=> .br (λ_=> .bind (ZU x ok _ _) λn hn=> ?_) λ_=> .br (λ_=> .bind (Qu x ok) λy hy=> .ret hy) λ_=> .br (λ_=> .bind (XJ c1) λy hy=> .ret hy) λ_=> .br (λ_=> .bind (XJ c2) λy hy=> .ret hy) λ_=> .br (λ_=> .bind (XJ c3) λy hy=> .ret hy) λ_=> .br (λ_=> .bind (XJ c4) λy hy=> .ret hy) λ_=> .br (λ_=> .bind (XJ c5) λy hy=> .ret hy) λ_=> .br (λ_=> .bind (ZX x ok _) λy hy=> .ret hy) λ_=> .br (λ_=> .bind (Z2 x ok _ _ _) λy hy=> .br (λ_=> .ret hy) λ_=> .ret hy) λ_=> .br (λ_=> .bind (YA x ok _) λy hy=> .ret hy) λ_=> .br (λ_=> .bind (VB x ok _) λy hy=> .ret hy) λ_=> .br (λ_=> .bind (Zf x ok _) λy hy=> .ret hy) λ_=> .bind (Za x ok _ _) λy hy=> .ret hy;rw[Fh];refine .br (λ_=> .bind (QL x ok _ hn) λy hy=> .ret hy) λ_=> ?_;rw[(GM x ok).1];exact .ret (.self ok)
theorem aaL(k:Int):Tt T1 (Ni k):=by
 unfold Ni
 repeat first |exact .ret trivial|refine .br (λ_=> ?_) λ_=> ?_
theorem YB(e:xx):Tt T1 (IW e):=by
 unfold IW;simp only[Gn,ak,NU];refine .br (λ_=> .ret trivial) λ_=> .br (λ_=> .ret trivial) λ_=> .br (λ_=> .ret trivial) λ_=> .br (λ_=> .ret trivial) λ_=> .bind (aaL _) λ_ _=> ?_
 repeat first |exact .ret trivial|refine .br (λ_=> ?_) λ_=> ?_
theorem Xk(x:qN)(ok:FS 1048576 x)(e:xx):Tt (λy=>Kp x y.1) (Md x e):=by unfold Md;rw[(GM x ok).1];refine .bind (K0 x ok) λ_ _=> .br (λ_=> .ret (Kp.self ok)) λ_=> .bind (YB e) λ_ _=> .br (λ_=> .ret (Kp.self ok)) λ_=> .br (λ_=> .bind (YF x ok _ _) λy hy=> .ret hy) λ_=> .br (λ_=> ?_) λ_=> .bind (aaJ x ok e) λy hy=> .ret hy;exact .bind (Q:=λy=>Kp x y.1) ⟨_,rfl,Kp.self ok⟩ λy hy=> .bind (VZ x ok _ _) λ_ _=> .ret hy
theorem Wj(x:qN)(ok:FS 1048576 x)(l:List xx)(hl:l.length<=1048576):Tt (λy=>Kp x y.1/\y.2.1.length<=l.length) (Lk x l):=by
 have lm:=Fu hl;unfold Lk;rw[(GM x ok).1,ak];refine .bind (.count (B:=K9) (E:=λe=> ∃ (c:qN) (r:List xB),Kp x c/\r.length<=l.length/\e=(((),(),(),()),(fz,fc c,()),r,c.servers,c.sides,c.master.configs,c.places,())) l.length (λk (b:qN×List xB)=>((l,(),(),(),(k:Int),()),(fz,fc b.1,()),b.2,b.1.servers,b.1.sides,b.1.master.configs,b.1.places,())) (λk b=>Kp x b.1/\b.2.length<=k) (λb hb=> .end (EK _) (.ret ⟨b.1,b.2,hb.1,hb.2,rfl⟩)) (λk b hk hb=> .go (EJ.2 hk) (.br (λ_=> .ip (EI k) (.get (tn hk) λe _ _=> .bind (Xk b.1 hb.1.1 e) λy hy=> .ip ?_ (.ret ⟨(y.1,b.2++ [y.2.1]),by rw[kT lm hk],hb.1.trans hy,?_⟩))) λ_=> .ret ⟨b.1,b.2,hb.1,by omega,rfl⟩)) (x,[]) ⟨.self ok,az _⟩) ?_
 ·show (b.2++ [y.2.1]).length*32<=2 ^ 40;rw[be,cn];omega
 ·rw[be,cn];omega
 ·rintro _ ⟨c,r,hc,hr,rfl⟩
  exact .ret ⟨hc,hr⟩
end
section
section
variable [dL]
theorem Tt.dn{α β:Type}{Q:α->Prop}{Q':β->Prop}{r:Option (List qO×α)}{k:List qO×α->Option β}(h:Dn Q r)(hk: ∀c a,FY c->Q a->Tt Q' (k ([c],a))):Tt Q' (r.bind k):=by obtain⟨c,a,rfl,h1,h2⟩:=h;exact hk c a h1 h2
theorem Dn.tt{α β:Type}{Q:α->Prop}{Q':β->Prop}{r:Option α}{k:α->Option (List qO×β)}(h:Tt Q r)(hk: ∀a,Q a->Dn Q' (k a)):Dn Q' (r.bind k):=by obtain⟨a,rfl,h⟩:=h;exact hk a h
theorem Xw{α:Type}{Q:α->Prop}{r:Option (List qO×α)}(h:Tt (λy=> ∃c,y.1= [c] /\FY c/\Q y.2) r):Dn Q r:=by obtain⟨⟨_,a⟩,rfl,c,rfl,h1,h2⟩:=h;exact⟨c,a,rfl,h1,h2⟩
theorem Yw{c:qO}(h:FY c):Dn (λy:List Int×Unit=>MG y.1) (Lr [c]):=by
 refine Xw ?_;unfold Lr;refine .bind (.count (B:=NM) (E:=λe=> ∃c,e.2.2.1= [c] /\FY c/\MG e.2.2.2.1) 5 (λk (b:qO×List Int)=>(((),(),(k:Int),()),(),[b.1],b.2,())) (λk b=>FY b.1/\b.2.length<=k/\SS b.2/\ ∀y∈b.2,0<=y/\y< (k:Int)) (λb hb=> .end (EK _) (.ret ⟨b.1,rfl,hb.1,Oe hb.2.2.1 hb.2.2.2⟩)) (λk b hk hb=> ?_) (c,[]) ⟨h,az _,List.Pairwise.nil,nofun⟩) λy hy=> .ret hy;obtain⟨h1,h2,h3,h4⟩:=hb;have sw:=kT (n:=5) (by decide) hk;have stay: ∀y∈b.2,0<=y/\y< ((k+1:Nat):Int):=λy hy=>by have:=h4 y hy;omega
 refine .go (show (k:Int)<5 by omega) (.dn (HS h1 2) λc1 _ hc _=> .ip rfl (.br (λ_=> .ip (by show (b.2++ [(k:Int)]).length*8<=2 ^ 40;rw[be,cn];omega) (.ret ⟨(c1,b.2++ [(k:Int)]),by rw[sw],hc,by rw[be,cn];omega,?_,λy hy=> ?_⟩)) λ_=> .ret ⟨(c1,b.2),by rw[sw],hc,ET h2,h3,stay⟩))
 ·exact EW.2 ⟨h3,EX _ _,λy hy z hz=>by rw[aJ.1 hz];exact (h4 y hy).2⟩
 ·rcases bi.1 hy with hy|hy
  ·exact stay y hy
  ·rw[aJ.1 hy];omega
omit [dL] in
theorem Ym{l:List vB}(h5:l.length=5)(h: ∀p∈l,(0<=p.rack/\p.rack<=9)/\(0<=p.capacity/\p.capacity<=9)/\0<=p.load/\p.load<=99):FQ l=some (true,()):=by
 have lm:l.length<=maxLen:=by unfold maxLen;omega
 have fm:Tt (λy:Bool×Unit=>y.1=true) (FQ l):=by
  unfold FQ;refine .bind (.count (B:=HJ) (E:=Sum.elim (λ_=>False) λe=>e.1.1=l) l.length (λk (_:Unit)=>((l,(k:Int),()),(),())) (λ_ _=>True) (λ_ _=> .end (EK _) (.ret rfl)) (λk _ hk _=> .go (EJ.2 hk) (.ip (EI k) (.get (tn hk) λp _ hp=> ?_))) () trivial) λy hy=> ?_
  ·obtain⟨h1,_⟩:=h p hp;rw[Gn,Ft.2 h1,ak];refine .br (λh=>by cases h) λ_=> .ip (EI k) (.get (tn hk) λq _ hq=> ?_);obtain⟨_,h2,_⟩:=h q hq;rw[Gn,Ft.2 h2,ak];refine .br (λh=>by cases h) λ_=> .ip (EI k) (.get (tn hk) λr _ hr=> ?_);obtain⟨_,_,h3⟩:=h r hr;rw[Gn,Ft.2 h3,ak];exact .br (λh=>by cases h) λ_=> .ret ⟨(),by rw[kT lm hk],trivial⟩
  ·cases y with
   |inl y=>exact hy.elim
   |inr y=>refine .ret ?_;show ((y.1.1.length:Int)==5)=true;rw[show y.1.1=l from hy,h5];rfl
 obtain⟨⟨b,_⟩,e,rfl⟩:=fm;exact e
theorem WK{c:qO}(h:FY c):Dn (λy:List vB×Unit=>y.1.length=5/\FQ y.1=some (true,())) (KQ [c]):=by
 refine Xw ?_;unfold KQ;refine .bind (.count (B:=LO) (E:=λe=> ∃c,e.2.2.1= [c] /\FY c/\e.2.2.2.1.length=5/\FQ e.2.2.2.1=some (true,())) 5 (λk (b:qO×List vB)=>(((),(),(k:Int),()),(),[b.1],b.2,())) (λk b=>FY b.1/\b.2.length=k/\ ∀p∈b.2,(0<=p.rack/\p.rack<=9)/\(0<=p.capacity/\p.capacity<=9)/\0<=p.load/\p.load<=99) (λb hb=> .end (EK _) (.ret ⟨b.1,rfl,hb.1,hb.2.1,Ym hb.2.1 hb.2.2⟩)) (λk b hk hb=> ?_) (c,[]) ⟨h,rfl,nofun⟩) λy hy=> .ret hy;obtain⟨h1,h2,h3⟩:=hb;refine .go (show (k:Int)<5 by omega) (.dn (Jj h1 (n:=4) (by omega)) λc1 x g1 hx=> .ip rfl (.dn (Jj g1 (n:=4) (by omega)) λc2 y g2 hy=> .ip rfl (.dn (Jj g2 (n:=4) (by omega)) λc3 z g3 hz=> .ip rfl (.ip ?_ (.ret ⟨(c3,b.2++ [⟨x.1,1+y.1,z.1⟩]),?_,g3,by rw[be,cn,h2],λp hp=> ?_⟩)))))
 ·rw[be,cn,show List.length _=k from h2];omega
 ·dsimp only;rw[kT (n:=5) (by decide) hk,of (n:=1+y.1) (by omega) (by omega)]
 ·rcases bi.1 hp with hp|hp
  ·exact h3 p hp
  ·rw[aJ.1 hp];show (0<=x.1/\x.1<=9)/\(0<=1+y.1/\1+y.1<=9)/\0<=z.1/\z.1<=99;omega
omit [dL] in
theorem WI(v:Int):Tt (λy=>F1 1048576 y.1) (JX v):=by
 unfold JX;rw[Gn,ak];have ok: ∀v:Int,F1 1048576 ⟨true,true,v,0,⟨0,0,[],[]⟩,0,[],0,[]⟩:=λ_=>⟨⟨bH _,bH _⟩,bH _,bH _⟩
 exact .br (λ_=> .ret (ok _)) λ_=> .ret (ok _)
omit [dL] in
theorem aaf(l:List vB)(hl:l.length<=1048576):Tt (λy=>FS 1048576 y.1/\(FQ l=some (true,())->y.1.servers.length=5)) (Kl l):=by
 obtain⟨v,v1,_⟩:=M7 l (Fu hl);unfold Kl;rw[v1,ak,Fh];refine .br (λe=> .ip (by decide) (.ip ?_ (.bind (.count (B:=J6) (E:=λe=> ∃S:List qQ,S.length=5/\(∀s∈S,F1 1048576 s)/\e=(((),(),()),(fz,(0,(),(),(),0,3,0,0,0,(),()),()),S,List.replicate (5:Int).toNat (0:Int),[] ++l,())) 5 (λk (S:List qQ)=>(((),(),(k:Int),()),(fz,(0,(),(),(),0,3,0,0,0,(),()),()),S,List.replicate (5:Int).toNat (0:Int),[] ++l,())) (λk S=>S.length=k/\ ∀s∈S,F1 1048576 s) (λS hS=> .end (EK _) (.ret ⟨S,hS.1,hS.2,rfl⟩)) (λk S hk hS=> .go (show (k:Int)<5 by omega) (.bind (WI 1) λs hs=> .ip ?_ (.ret ⟨S++ [s.1],by rw[kT (n:=5) (by decide) hk],by rw[be,cn,hS.1],λt ht=> ?_⟩))) [] ⟨rfl,nofun⟩) ?_))) λ_=> .ret ⟨⟨⟨bH _,nofun⟩,bH _,⟨bH _,nofun⟩,bH _⟩,λe=>by simp_all⟩
 ·rw[bK];omega
 ·rw[be,cn,show List.length _=k from hS.1];omega
 ·exact (bi.1 ht).elim (hS.2 t) λe=>by rw[aJ.1 e];exact hs
 ·rintro _ ⟨S,h5,hS,rfl⟩
  exact .ret ⟨⟨⟨by show S.length<=_;omega,hS⟩,by show (List.replicate (5:Int).toNat (0:Int)).length<=_;decide,⟨bH _,nofun⟩,hl⟩,λ_=>h5⟩
omit [dL] in
theorem Xr{e p:Int}{R W:List Int}(he:1<=e/\e<=20)(hR:MG R)(hW:MG W)(hp:p∈R)(hd: ∀y∈R,y∉W):Fk ⟨e,p,R,W⟩=some (true,()):=by have hr:=hR.len;have hw:=hW.len;unfold Fk;simp only[Gn,Ft.2 he,ak,DG,(OY hR).1,(OY hW).1,(FD R p (by unfold maxLen;omega)).1,decide_eq_true hp,Qs R W hR (by unfold maxLen;omega)];rw[List.filter_eq_nil_iff.2 λy hy h=>hd y hy (of_decide_eq_true h)];rfl
theorem Z3{c:qO}(h:FY c)(e:Int):Dn (λy:om×Unit=>y.1.epoch=e/\y.1.replicas.length<=5/\y.1.witnesses.length<=5/\(1<=e/\e<=20->Fk y.1=some (true,()))) (JM [c] e):=by
 unfold JM;refine .bind (Jj h (n:=5) (by omega)) λc1 p h1 hp=> .iteP rfl (.bind (Yw h1) λc2 l h2 hl=> .iteP rfl ?_);obtain⟨r,r1,r2,r3,_⟩:=Y9 l.1 p.1 (by have:=hl.len;omega) hl.pair;rw[show HQ _ _=_ from r1,ak]
 have fm: ∀R:List Int,MG R->p.1∈R->Dn (λy:om×Unit=>y.1.epoch=e/\y.1.replicas.length<=5/\y.1.witnesses.length<=5/\(1<=e/\e<=20->Fk y.1=some (true,()))) ((Gg [c2] 2).bind λy5=>iteP (y5.1.length=([c2]:List qO).length) (br y5.2.1 ((Lr y5.1).bind λy6=>iteP (y6.1.length=y5.1.length) ((F3 y6.2.1 R).bind λy7=>br (decide ((y7.1.length:Int)>0)) (iteP (0<=(0:Int)/\(0:Int)<=(1:Int)/\(1:Int)<=((y7.1.length:Nat):Int)) (iteP ((0+(0:Int).toNat)=0/\((1:Int).toNat-(0:Int).toNat)<=y7.1.length) (some (y6.1,(⟨e,p.1,R,(y7.1.take ((1:Int).toNat-(0:Int).toNat))⟩:om),())) (iteP ((0+(0:Int).toNat)+((1:Int).toNat-(0:Int).toNat)<=y7.1.length) (some (y6.1,(⟨e,p.1,R,((y7.1.drop (0+(0:Int).toNat)).take ((1:Int).toNat-(0:Int).toNat))⟩:om),())) none)) none) (some (y6.1,(⟨e,p.1,R,([]:List Int)⟩:om),()))) none) (some (y5.1,(⟨e,p.1,R,([]:List Int)⟩:om),()))) none):=λR hR hpR=>by
  have nil:MG [] :=λk hk=>by simp at hk
  have rl:=hR.len;refine .bind (HS h2 2) λc3 _ h3 _=> .iteP rfl (.br (λ_=> .bind (Yw h3) λc4 w h4 hw=> .iteP rfl ?_) λ_=> .ret h3 ⟨rfl,rl,bH _,λhe=>Xr he hR nil hpR λ_ _=>nofun⟩);rw[show F3 _ _=_ from SU w.1 R hw (by unfold maxLen;omega),ak];have hf:=hw.filter λx=> !decide (x∈R)
  have hn: ∀y∈R,y∉w.1.filter λx=> !decide (x∈R):=λy hy h=>by have:=(EZ.1 h).2;simp[hy] at this
  have fl:=hf.len;generalize w.1.filter (λx=> !decide (x∈R))=f at hf hn fl;refine .br (λhpos=> ?_) λ_=> .ret h4 ⟨rfl,rl,bH _,λhe=>Xr he hR nil hpR λ_ _=>nofun⟩;have hpos: (f.length:Int)>0:=of_decide_eq_true hpos;refine .iteP (by show (0:Int)<=0/\(0:Int)<=1/\(1:Int)<=(f.length:Int);omega) (.iteP (by show 0=0/\1<=f.length;omega) (.ret h4 ⟨rfl,rl,?_,λhe=>Xr he hR ?_ hpR λy hy h=>hn y hy (bJ h)⟩))
  ·show (f.take _).length<=5;rw[ci];omega
  ·exact Oe (hf.pair.sublist (List.take_sublist _ _)) λy hy=>K1 hf y (bJ hy)
 have ra:MG r:=Oe r2 λy hy=>((r3 y).1 hy).elim (λe=>by rw[e];exact hp) (K1 hl y);refine .br (λ_=>fm [p.1] (Oe (EX _ _) λy hy=>by rw[aJ.1 hy];exact hp) (aJ.2 rfl)) λ_=>fm r ra ((r3 _).2 (.inl rfl))
omit [dL] in
theorem aad{M:kB}(h:MI 1048576 M)(hl:M.configs.length<=1000){c:om}(hc:GQ 1048576 c):MI 1048576 ⟨M.configs++ [c],M.activated⟩:=⟨by show (M.configs++ [c]).length<=_;rw[be,cn];omega,λd hd=>(bi.1 hd).elim (h.2 d) λe=>by rw[aJ.1 e];exact hc⟩
theorem aar{c:qO}(h:FY c):Dn (λy:List Int×Unit=>y.1.length<=6) (O1 [c]):=by
 unfold O1;refine .bind (Yw h) λc1 l h1 hl=> .iteP rfl (.bind (HS h1 _) λc2 _ h2 _=> .iteP rfl (.br (λ_=> .bind (G2 h2 (by simp)) λc3 x h3 _=> .iteP rfl ?_) λ_=> .ret h2 ?_))
 ·have:=hl.len;refine .iteP ?_ (.ret h3 ?_)
  ·show (l.1++ [x.1]).length*8<=2 ^ 40;rw[be,cn];omega
  ·show (l.1++ [x.1]).length<=6;rw[be,cn];omega
 ·exact ba hl.len (by omega)
theorem Xq{c:qO}(h:FY c):Dn (λy:om×Unit=>GQ 1048576 y.1) (O3 [c]):=by
 unfold O3;refine .bind (Gf h _) λc1 e h1 _=> .iteP rfl (.bind (Z3 h1 _) λc2 g h2 hg=> .iteP rfl (.bind (Gf h2 _) λc3 x h3 _=> .iteP rfl ?_));obtain⟨_,g1,g2,_⟩:=hg;have ok:GQ 1048576 g.1:=⟨by omega,by omega⟩
 refine .br (λ_=> .bind (G2 h3 (by simp)) λc4 _ h4 _=> .iteP rfl (.ret h4 ok)) λ_=> .br (λ_=> .bind (Gf h3 _) λc4 _ h4 _=> .iteP rfl (.ret h4 ok)) λ_=> .br (λ_=> .bind (aar h3) λc4 l h4 hl=> .iteP rfl (.ret h4 ⟨by show l.1.length<=_;omega,ok.2⟩)) λ_=> .br (λ_=> .bind (aar h3) λc4 l h4 hl=> .iteP rfl (.ret h4 ⟨ok.1,by show l.1.length<=_;omega⟩)) λ_=> .ret h3 ok
theorem aaS{c:qO}(h:FY c):Dn (λy:kB×Unit=>MI 1048576 y.1/\y.1.configs.length<=10) (Oj [c]):=by
 unfold Oj;refine .bind (Jj h (n:=5) (by omega)) λc1 n h1 hn=> .iteP rfl (Xw (.bind (.loop (B:=NK) (E:=λe=> ∃c,e.2.2.1= [c] /\FY c/\MI 1048576 ⟨e.2.2.2.1,e.2.1.2.1.2.1⟩/\e.2.2.2.1.length<=10) (λs=> ∃ (c:qO) (M:kB) (k:Int),s=(((),(),(),k,()),(((),0,()),((),M.activated,()),()),[c],M.configs,())/\FY c/\MI 1048576 M/\0<=k/\M.configs.length+k.toNat<=10) (λs=>s.1.2.2.2.1.toNat) ?_ ⟨c1,⟨[],0⟩,n.1,rfl,h1,⟨bH _,nofun⟩,hn.1,by show 0+n.1.toNat<=10;omega⟩) λy hy=> .ret hy))
 rintro _ ⟨c,M,k,rfl,hc,hM,h0,hl⟩
 refine .br (λhk=> ?_) λ_=> .ret ⟨c,rfl,hc,hM,by show M.configs.length<=10;omega⟩;have hk:k>0:=of_decide_eq_true hk;have hw:IntKind.wrap .i64 (k-1)=k-1:=of (by omega) (by omega);refine .dn (Z3 hc _) λc2 g h2 hg=> .ip rfl (.bind (Rk M hM g.1 ⟨by omega,by omega⟩) λm hm=> .dn (HS h2 _) λc3 _ h3 _=> .ip rfl (.br (λ_=> .bind (RP m.1 hm.1 _) λa ha=> .ret ⟨⟨c3,a.1,k-1,by dsimp only;rw[hw],h3,ha.1,by omega,by omega⟩,?_⟩) λ_=> .ret ⟨⟨c3,m.1,k-1,by dsimp only;rw[hw],h3,hm.1,by omega,by omega⟩,?_⟩))
 all_goals
  show (IntKind.wrap .i64 (k-1)).toNat<k.toNat;rw[hw];omega
theorem aaM{c:qO}(h:FY c):Dn (λy:kB×Unit=>MI 1048576 y.1) (Oi [c]):=by unfold Oi;refine .bind (aaS h) λc1 m h1 hm=> .iteP rfl (.bind (Gf h1 _) λc2 _ h2 _=> .iteP rfl (.br (λ_=> .bind (G2 h2 (by simp)) λc3 _ h3 _=> .iteP rfl (.ret h3 hm.1)) λ_=> .br (λ_=> .bind (Xq h2) λc3 g h3 hg=> .iteP rfl (.iteP ?_ (.ret h3 (aad hm.1 (by omega) hg)))) λ_=> .ret h2 hm.1));show (m.1.configs++ [g.1]).length*64<=2 ^ 40;rw[be,cn];omega
omit [dL] in
theorem Yj(c:om)(h:GQ maxLen c)(hv:Fk c=some (true,())):Tt (λy=>0<y.1.length/\y.1.length<=10) (FX c):=by unfold FX;rw[hv,ak];refine .br (λh=>by cases h) λ_=> ?_;obtain⟨a1,a2,a3,_⟩:=L5 h hv;have l1:=a1.len;have l2:=a2.len;obtain⟨r,r1,_,r4,r5⟩:=Wk c.replicas c.witnesses (by omega) (by omega);rw[r1];exact .ret ⟨List.length_pos_of_mem ((r4 c.primary).2 (.inl a3)),by show r.length<=10;omega⟩
omit [dL] in
theorem aaP(l:List sf)(e:Int)(hl:l.length<=1048576):Tt (λy=>y.1.length<=1048576) (Om l e):=by
 unfold Om;refine .bind (.count (B:=NL) (E:=λy=> ∃k:Nat,k<=l.length/\y=((l,(k:Int),()),(),())) l.length (λk (_:Unit)=>((l,e,(k:Int),()),(),())) (λ_ _=>True) (λ_ _=> .end (EK _) (.ret ⟨l.length,az _,rfl⟩)) (λk _ hk _=> .go (EJ.2 hk) (.ip (EI k) (.get (tn hk) λ_ _ _=> .br (λ_=> .ret ⟨(),by rw[kT (Fu hl) hk],trivial⟩) λ_=> .ret ⟨k,Nat.le_of_lt hk,rfl⟩))) () trivial) ?_
 rintro _ ⟨k,hk,rfl⟩
 have h2: ((l.drop (0:Int).toNat).take ((k:Int).toNat-(0:Int).toNat)).length<=1048576:=by rw[ci,bR];omega
 exact .ip ⟨c9 _,EI k,Int.ofNat_le.2 hk⟩ (.bind (Q:=λy=>y.1.length<=1048576) ⟨_,Of h2,h2⟩ λy hy=> .ret hy)
theorem Zb{c:qO}(h:FY c):Dn (λy:qQ×Int×Unit=>F1 1048576 y.1) (Lp [c]):=by
 unfold Lp;refine .bind (Gf h _) λc1 _ h1 _=> .iteP rfl (.tt (WI _) λs hs=> .bind (Jj h1 (n:=3) (by omega)) λc2 e h2 he=> .iteP rfl (.bind (Z3 h2 _) λc3 g h3 hg=> .iteP rfl ?_));have hw:IntKind.wrap .i64 (1+e.1)=1+e.1:=of (by omega) (by omega);obtain⟨g0,g1,g2,g3⟩:=hg;have g3:=g3 (by rw[hw];omega);have okc:GQ 1048576 g.1:=⟨by omega,by omega⟩
 refine .tt (Yj g.1 (Fl okc) g3) λm hm=> .bind (Jj h3 (n:=(m.1.length:Int)) (by omega)) λc4 i h4 hi=> .iteP rfl (.iteP hi (.get (by show i.1.toNat<m.1.length;omega) λz _=> .bind (HS h4 _) λc5 _ h5 _=> .iteP rfl ?_))
 have fin: ∀ (c6:qO) (t:qQ),FY c6->F1 1048576 t-> ∀up:Bool,Dn (λy:qQ×Int×Unit=>F1 1048576 y.1) ((Gg [c6] 4).bind λy46=>iteP (y46.1.length=([c6]:List qO).length) (br y46.2.1 ((Fj y46.1 3).bind λy47=>iteP (y47.1.length=y46.1.length) ((HE (⟨up,t.intact,t.version,t.epoch,t.config,t.first,t.log,t.commit,t.learned⟩:qQ) (IntKind.wrap .i64 (4+y47.2.1))).bind λy48=>some (y47.1,y48.1,z,())) none) (some (y46.1,(⟨up,t.intact,t.version,t.epoch,t.config,t.first,t.log,t.commit,t.learned⟩:qQ),z,()))) none):=λc6 t h6 ht up=>.bind (HS h6 _) λc7 _ h7 _=> .iteP rfl (.br (λ_=> .bind (Gf h7 _) λc8 _ h8 _=> .iteP rfl (.tt (Vp ⟨up,t.intact,t.version,t.epoch,t.config,t.first,t.log,t.commit,t.learned⟩ _ ht) λu hu=> .ret h8 hu)) λ_=> .ret h7 ht)
 rw[Fh];refine .br (λ_=> .bind (HS h5 _) λc6 _ h6 _=> .iteP rfl (.br (λ_=>fin c6 s.1 h6 hs _) λ_=>fin c6 s.1 h6 hs _)) λ_=> .bind (XV h5) λc6 l h6 hl=> .iteP rfl (.tt (aaP l.1 _ (by omega)) λl2 hl2=> .tt (UW s.1 g.1 z l2.1 hs okc hl2) λt ht=> .bind (HS h6 _) λc7 _ h7 _=> .iteP rfl (.br (λ_=>fin c7 t.1 h7 ht _) λ_=>fin c7 t.1 h7 ht _))
theorem Xl{c:qO}(h:FY c):Dn (λy:qQ×Int×Unit=>F1 1048576 y.1) (Ol [c]):=by unfold Ol;refine .bind (Zb h) λc1 s h1 hs=> .iteP rfl (.bind (Gf h1 _) λc2 _ h2 _=> .iteP rfl ?_);refine .br (λ_=> .bind (G2 h2 (by simp)) λc3 _ h3 _=> .iteP rfl (.ret h3 hs)) λ_=> .br (λ_=> .bind (G2 h2 (by simp)) λc3 _ h3 _=> .iteP rfl (.ret h3 hs)) λ_=> .br (λ_=> .bind (Xq h2) λc3 g h3 hg=> .iteP rfl (.ret h3 ⟨hg,hs.2⟩)) λ_=> .br (λ_=> .bind (G2 h2 (by simp)) λc3 _ h3 _=> .iteP rfl (.ret h3 hs)) λ_=> .br (λ_=> .bind (G2 h2 (by simp)) λc3 _ h3 _=> .iteP rfl (.ret h3 hs)) λ_=> .br (λ_=> .bind (Gf h2 _) λc3 _ h3 _=> .iteP rfl (.ret h3 hs)) λ_=> .br (λ_=> .bind (W9 h2) λc3 l h3 hl=> .iteP rfl (.ret h3 ⟨hs.1,by show l.1.length<=_;omega,hs.2.2⟩)) λ_=> .ret h2 hs
theorem Yu{c:qO}(h:FY c):Dn (λy:List Int×Unit=>y.1.length<=5) (Oo [c]):=by
 unfold Oo;refine .bind (Yv h) λc1 l h1 hl=> .iteP rfl (.bind (Gf h1 _) λc2 _ h2 _=> .iteP rfl (.br (λ_=> ?_) λ_=> .br (λ_=> .bind (G2 h2 (by simp)) λc3 x h3 _=> .iteP rfl (.iteP ?_ (.get ?_ λ_ _=> .ret h3 ?_))) λ_=> .ret h2 (Fa hl)))
 ·have hl:l.1.length=5:=hl;refine .iteP (by show (0:Int)<=1/\(1:Int)<=(l.1.length:Int)/\(l.1.length:Int)<=(l.1.length:Int);omega) ?_;rw[C7,if_neg (by intro h;exact absurd h.1 (by decide))];refine .iteP (by show 0+(1:Int).toNat+((l.1.length:Int).toNat-(1:Int).toNat)<=l.1.length;omega) (.ret h2 ?_);show ((l.1.drop (0+(1:Int).toNat)).take ((l.1.length:Int).toNat-(1:Int).toNat)).length<=5;rw[ci,bR];omega
 ·have hl:l.1.length=5:=hl;show (0:Int)<=1/\(1:Int)< (l.1.length:Int);omega
 ·have hl:l.1.length=5:=hl;show (1:Int).toNat<l.1.length;omega
 ·show (l.1.set _ _).length<=5;rw[EL];exact Fa hl
theorem Xe{c:qO}(h:FY c):Dn (λy:List vB×Unit=>y.1.length<=5) (P1 [c]):=by
 unfold P1;refine .bind (WK h) λc1 l h1 hl=> .iteP rfl (.bind (Gf h1 _) λc2 _ h2 _=> .iteP rfl ?_);have hl:l.1.length=5:=hl.1;refine .br (λ_=> ?_) λ_=> .br (λ_=> .bind (G2 h2 (by simp)) λc3 x h3 _=> .iteP rfl (.iteP (by show (0:Int)<=0/\(0:Int)< (l.1.length:Int);omega) (.get (by show (0:Int).toNat<l.1.length;omega) λ_ _=> .ret h3 ?_))) λ_=> .br (λ_=> .bind (G2 h2 (by simp)) λc3 x h3 _=> .iteP rfl (.iteP (by show (0:Int)<=1/\(1:Int)< (l.1.length:Int);omega) (.get (by show (1:Int).toNat<l.1.length;omega) λ_ _=> .ret h3 ?_))) λ_=> .ret h2 (Fa hl)
 ·refine .iteP (by show (0:Int)<=1/\(1:Int)<=(l.1.length:Int)/\(l.1.length:Int)<=(l.1.length:Int);omega) ?_;rw[C7,if_neg (by intro h;exact absurd h.1 (by decide))];refine .iteP (by show 0+(1:Int).toNat+((l.1.length:Int).toNat-(1:Int).toNat)<=l.1.length;omega) (.ret h2 ?_);show ((l.1.drop (0+(1:Int).toNat)).take ((l.1.length:Int).toNat-(1:Int).toNat)).length<=5;rw[ci,bR];omega
 ·show (l.1.set _ _).length<=5;rw[EL];omega
 ·show (l.1.set _ _).length<=5;rw[EL];omega
theorem Xt{c:qO}(h:FY c):Dn (λy:qN×Unit=>FS 1048576 y.1/\y.1.servers.length=5) (Ks [c]):=by unfold Ks;refine .bind (WK h) λc1 l h1 hl=> .iteP rfl (.tt (aaf l.1 (by have:=hl.1;omega)) λx hx=> .bind (WS h1 (by omega) (by omega)) λc2 e h2 he=> .iteP rfl (.tt (Wj x.1 hx.1 e.1 (by omega)) λy hy=> .ret h2 ⟨hy.1.1,hy.1.2.trans (hx.2 hl.2)⟩))
theorem Vw{c:qO}(h:FY c):Dn (λy:qN×Unit=>FS 1048576 y.1/\y.1.servers.length=5) (Oq [c]):=by unfold Oq;refine .bind (Xt h) λc1 x h1 hx=> .iteP rfl (.bind (Gf h1 _) λc2 _ h2 _=> .iteP rfl ?_);obtain⟨⟨x1,x2,x3,x4⟩,x5⟩:=hx;refine .br (λ_=> .bind (G2 h2 (by simp)) λc3 _ h3 _=> .iteP rfl (.ret h3 ⟨⟨x1,x2,x3,x4⟩,x5⟩)) λ_=> .br (λ_=> .bind (Yu h2) λc3 l h3 hl=> .iteP rfl (.ret h3 ⟨⟨x1,by show l.1.length<=_;omega,x3,x4⟩,x5⟩)) λ_=> .br (λ_=> .bind (aaM h2) λc3 m h3 hm=> .iteP rfl (.ret h3 ⟨⟨x1,x2,hm,x4⟩,x5⟩)) λ_=> .br (λ_=> .bind (G2 h2 (by simp)) λc3 _ h3 _=> .iteP rfl (.ret h3 ⟨⟨x1,x2,x3,x4⟩,x5⟩)) λ_=> .br (λ_=> .bind (XU h2) λc3 _ h3 _=> .iteP rfl (.ret h3 ⟨⟨x1,x2,x3,x4⟩,x5⟩)) λ_=> .br (λ_=> .bind (Xe h2) λc3 l h3 hl=> .iteP rfl (.ret h3 ⟨⟨x1,x2,x3,by show l.1.length<=_;omega⟩,x5⟩)) λ_=> .br (λ_=> .bind (Xl h2) λc3 s h3 hs=> .iteP rfl (.bind (Jj h3 (n:=5) (by omega)) λc4 i h4 hi=> .iteP rfl (.iteP (by show 0<=i.1/\i.1< (x.1.servers.length:Int);rw[x5];exact hi) (.get (by show i.1.toNat<x.1.servers.length;omega) λ_ _=> .ret h4 ⟨⟨NT x1 hs _,x2,x3,x4⟩,by show (x.1.servers.set _ _).length=5;rw[EL];exact x5⟩)))) λ_=> .ret h2 ⟨⟨x1,x2,x3,x4⟩,x5⟩
omit [dL] in
theorem We(x:qN)(ok:FS 1048576 x):Tt (λy=>y.1.length<=1048576) (IY x):=by
 unfold IY;refine .bind (.count (B:=Ja) (E:=λe=>e.2.2.1.length<=1048576) x.servers.length (λk (b:List Int)=>(((),(),(k:Int),()),(fx x,()),b,())) (λk b=>b.length<=k) (λb hb=> .end (EK _) (.ret (ba hb ok.1.1))) (λk b hk hb=> ?_) [] (az _)) λy hy=> .ret hy;have:=ok.1.1;have sw:=kT (Fu ok.1.1) hk;refine .go (EJ.2 hk) (.bind (K0 x ok) λ_ _=> .br (λ_=> .ip (EI k) (.get (tn hk) λs _ hs=> ?_)) λ_=> .ret (by show b.length<=_;omega));obtain⟨d,d1,_⟩:=KZ s k (ok.1.2 s hs);rw[show FG _ _=_ from d1,ak];refine .br (λ_=> .ip ?_ (.ret ⟨b++ [(k:Int)],by rw[sw],?_⟩)) λ_=> .ret ⟨b,by rw[sw],ET hb⟩
 ·show (b++ [(k:Int)]).length*8<=2 ^ 40;rw[be,cn];omega
 ·rw[be,cn];omega
theorem ZV{x:Hd}{l:List Int}(h:ly x=some l)(hl:l.length<=maxLen)(hb: ∀m∈l,0<=m/\m<=255):Dn (λy:qN×Int×Unit=>FS 1048576 y.1/\y.1.servers.length=5) (L4 x):=by unfold L4;refine .bind (aag h hl hb) λc1 _ h1 _=> .bind (Vw h1) λc2 x h2 hx=> .iteP rfl (.tt (We x.1 hx.1) λp hp=> .bind (Gf h2 _) λc3 _ h3 _=> .iteP rfl (.br (λhpos=> .bind (HS h3 _) λc4 _ h4 _=> .iteP rfl ?_) λ_=> .ret h3 hx));have hpos: (p.1.length:Int)>0:=of_decide_eq_true hpos;exact .br (λ_=> .bind (Jj h4 (n:=(p.1.length:Int)) (by omega)) λc5 i h5 hi=> .iteP rfl (.iteP hi (.get (by show i.1.toNat<p.1.length;omega) λ_ _=> .ret h5 hx))) λ_=> .ret h4 hx
end
end
section
theorem Tt.tru{r:Option (Bool×Unit)}(h:Tt (λy=>y.1=true) r):r=some (true,()):=by obtain⟨⟨b,_⟩,e,rfl⟩:=h;exact e
theorem Tt.is{α:Type}{Q:α->Prop}{r:Option α}{a:α}(h:Tt Q r)(e:r=some a):Q a:=by obtain⟨b,h1,h2⟩:=h;rw[e] at h1;cases h1;exact h2
theorem Z5(l:List Int)(hl:l.length<=maxLen):Iq l l=some (true,()):=by
 refine Tt.tru ?_;unfold Iq;rw[Fh,beq_self_eq_true];refine .br (λ_=> .bind (.count (B:=Hf) (E:=Sum.elim (λ_=>False) λ_=>True) l.length (λk (_:Unit)=>((l,l,(l.length:Int),(k:Int),()),(),())) (λ_ _=>True) (λ_ _=> .end (EK _) (.ret trivial)) (λk _ hk _=> .go (EJ.2 hk) (.ip (EI k) (.get (tn hk) λx e _=> .ip (EI k) (.get (tn hk) λy e2 _=> ?_)))) () trivial) λy hy=> ?_) (λh=>by cases h)
 ·obtain rfl:x=y:=Option.some.inj ((show l[k]? =some x from e).symm.trans (show l[k]? =some y from e2));rw[beq_self_eq_true];exact .br (λh=>by cases h) λ_=> .ret ⟨(),by rw[kT hl hk],trivial⟩
 ·cases y with
  |inl y=>exact hy.elim
  |inr y=>exact .ret rfl
theorem Xz(l:List vB)(hl:l.length<=maxLen):I0 l l=some (true,()):=by
 refine Tt.tru ?_;unfold I0;rw[Fh,beq_self_eq_true];refine .br (λ_=> .bind (.count (B:=Jd) (E:=Sum.elim (λ_=>False) λ_=>True) l.length (λk (_:Unit)=>((l,l,(l.length:Int),(k:Int),()),(),())) (λ_ _=>True) (λ_ _=> .end (EK _) (.ret trivial)) (λk _ hk _=> .go (EJ.2 hk) (.ip (EI k) (.get (tn hk) λx e _=> .ip (EI k) (.get (tn hk) λy e2 _=> ?_)))) () trivial) λy hy=> ?_) (λh=>by cases h)
 ·obtain rfl:x=y:=Option.some.inj ((show l[k]? =some x from e).symm.trans (show l[k]? =some y from e2));simp only[beq_self_eq_true,Bool.and_self];exact .br (λh=>by cases h) λ_=> .ret ⟨(),by rw[kT hl hk],trivial⟩
 ·cases y with
  |inl y=>exact hy.elim
  |inr y=>exact .ret rfl
theorem aav(s:qQ)(h:F1 1048576 s):GZ s s=some (true,()):=by unfold GZ;simp only[beq_self_eq_true,DG,(Gk s.config s.config (Fl h.1)).2,XA s.log s.log (Fu h.2.1),XA s.learned s.learned (Fu h.2.2),decide_true,ak]
theorem aaQ(m:kB)(h:MI 1048576 m):HB m m=some (true,()):=by
 have hl:=Fu h.1;refine Tt.tru ?_;unfold HB F2;rw[beq_self_eq_true,Fh,beq_self_eq_true];refine .br (λ_=> .bind (Q:=λy=>y.1=true) (.br (λ_=> .bind (.count (B:=FT) (E:=Sum.elim (λ_=>False) λ_=>True) m.configs.length (λk (_:Unit)=>((m.configs,(),m.configs,(m.configs.length:Int),(k:Int),()),(),())) (λ_ _=>True) (λ_ _=> .end (EK _) (.ret trivial)) (λk _ hk _=> .go (EJ.2 hk) (.ip (EI k) (.get (tn hk) λx e hx=> .ip (EI k) (.get (tn hk) λy e2 _=> ?_)))) () trivial) λy hy=> ?_) (λh=>by cases h)) λy hy=> .ret hy) (λh=>by cases h)
 ·obtain rfl:x=y:=Option.some.inj ((show m.configs[k]? =some x from e).symm.trans (show m.configs[k]? =some y from e2));rw[(Gk x x (Fl (h.2 x hx))).2,decide_eq_true rfl,ak];exact .br (λh=>by cases h) λ_=> .ret ⟨(),by rw[kT hl hk],trivial⟩
 ·cases y with
  |inl y=>exact hy.elim
  |inr y=>exact .ret rfl
theorem aau(x:qN)(ok:FS 1048576 x):Hu x x=some (true,()):=by
 have hl:=Fu ok.1.1;refine Tt.tru ?_;unfold Hu FM;simp only[beq_self_eq_true,Bool.and_self,DG,Z5 x.sides (Fu ok.2.1),aaQ x.master ok.2.2.1,Xz x.places (Fu ok.2.2.2),ak];rw[Fh];refine .bind (Q:=λy=>y.1=true) (.br (λ_=> .bind (.count (B:=FI) (E:=Sum.elim (λ_=>False) λ_=>True) x.servers.length (λk (_:Unit)=>((x.servers,(),x.servers,(x.servers.length:Int),(k:Int),()),(),())) (λ_ _=>True) (λ_ _=> .end (EK _) (.ret trivial)) (λk _ hk _=> .go (EJ.2 hk) (.ip (EI k) (.get (tn hk) λs e hs=> .ip (EI k) (.get (tn hk) λt e2 _=> ?_)))) () trivial) λy hy=> ?_) (λh=>by cases h)) λy hy=> .br (λ_=> .ret rfl) λh=>by rw[h] at hy;cases hy
 ·obtain rfl:s=t:=Option.some.inj ((show x.servers[k]? =some s from e).symm.trans (show x.servers[k]? =some t from e2));rw[aav s (ok.1.2 s hs),ak];exact .br (λh=>by cases h) λ_=> .ret ⟨(),by rw[kT hl hk],trivial⟩
 ·cases y with
  |inl y=>exact hy.elim
  |inr y=>exact .ret rfl
end
section

end
section

end
section
structure Co (x y:qN):Prop where
 sides:y.sides=x.sides
 master:y.master=x.master
 srv: ∀ (j:Nat) s,x.servers[j]? =some s-> ∃t,y.servers[j]? =some t/\t.up=s.up/\t.version=s.version/\t.epoch=s.epoch/\t.config=s.config
theorem Co.self(x:qN):Co x x:=⟨rfl,rfl,λ_ s h=>⟨s,h,rfl,rfl,rfl,rfl⟩⟩
theorem Co.trans{x y z:qN}(h:Co x y)(k:Co y z):Co x z:=⟨k.1.trans h.1,k.2.trans h.2,λj s hs=>by obtain⟨t,t1,t2,t3,t4,t5⟩:=h.srv j s hs;obtain⟨u,u1,u2,u3,u4,u5⟩:=k.srv j t t1;exact⟨u,u1,u2.trans t2,u3.trans t3,u4.trans t4,u5.trans t5⟩⟩
theorem Co.set{x y:qN}(h:Co x y){i:Nat}{s t:qQ}(hs:y.servers[i]? =some s)(h1:t.up=s.up)(h2:t.version=s.version)(h3:t.epoch=s.epoch)(h4:t.config=s.config):Co x ⟨y.now,y.servers.set i t,y.sides,y.master,y.masterUp,y.lease,y.places⟩:=
 h.trans ⟨rfl,rfl,λj u hu=>by
  by_cases hj:i=j
  ·subst hj;rw[hs] at hu;obtain rfl:=Option.some.inj hu;exact⟨t,EP (yw hs),h1,h2,h3,h4⟩
  ·exact⟨u,(ES hj).trans hu,rfl,rfl,rfl,rfl⟩⟩
def Hr(x:qN)(a b:Int):Prop:=∀p q,x.servers[a.toNat]? =some p->x.servers[b.toNat]? =some q->q.epoch=p.epoch/\q.config=p.config
theorem Co.hr{x y:qN}(h:Co x y){a b:Int}(hh:Hr y a b):Hr x a b:=λp q hp hq=>by obtain⟨p',p1,_,_,p2,p3⟩:=h.srv _ _ hp;obtain⟨q',q1,_,_,q2,q3⟩:=h.srv _ _ hq;obtain⟨e1,e2⟩:=hh p' q' p1 q1;exact⟨q2.symm.trans (e1.trans p2),q3.symm.trans (e2.trans p3)⟩
theorem XD{x:qN}(ok:FS 1048576 x)(vc:VC x){a b:Int}(ha:0<=a/\a<5)(hb:0<=b/\b<5):Tt (λy=>y.1=true->Hr x a b) (HM x a b):=by unfold HM;have no:Tt (λy:Bool×Unit=>y.1=true->Hr x a b) (some (false,())):=.ret nofun;refine .srv ok vc hb λm m1 m2 _=> .bind (TT ok vc a b) λ_ _=> .br (λ_=> .br (λ_=> .srv ok vc ha λp p1 p2 _=> .br (λhe=> .srv ok vc ha λ_ _ _ _=> .br (λ_=> .srv ok vc ha λq q1 _ _=> ?_) λ_=>no) λ_=>no) λ_=>no) λ_=>no;rw[(Gk m.config q.config (Fl m2.1)).1];refine .ret λh p' q' hp hq=> ?_;rw[p1] at hp;rw[m1] at hq;rw[p1] at q1;obtain rfl:=Option.some.inj hp;obtain rfl:=Option.some.inj hq;obtain rfl:=Option.some.inj q1;exact⟨eq_of_beq he,of_decide_eq_true h⟩
theorem ZZ(x:qN)(ok:FS 1048576 x)(id m:Int):Tt (λy=>Kp x y.1/\Co x y.1/\(y.2.1=true->Hr x id m)) (FB x id m):=by
 obtain⟨b,b1,_,b2⟩:=Hz x ok id;have bad:Tt (λy:qN×Bool×Unit=>Kp x y.1/\Co x y.1/\(y.2.1=true->Hr x id m)) (some (x,false,())):=.ret ⟨.self ok,.self x,nofun⟩;unfold FB;rw[(GM x ok).1,ak,b1,ak,Fh];refine .br (λe=> ?_) λ_=>bad;obtain⟨hv,h0,h5,hp⟩:=b2 e;have vc:=Gl ok hv;refine .srv ok vc ⟨h0,h5⟩ λs s1 s2 s3=> .bind (Jy _ (Fl s2.1)) λy hy=> ?_;rw[(FD y.1 m (by have:=hy.1;unfold maxLen;omega)).1,ak,Fh];refine .br (λhm=> ?_) λ_=>bad;have hm:=hy.2 m (of_decide_eq_true hm);refine .bind (XD ok vc ⟨h0,h5⟩ hm) λz hz=> ?_;rw[Fh];refine .br (λe=> .srv ok vc ⟨h0,h5⟩ λt t1 t2 t3=> .srv ok vc ⟨h0,h5⟩ λu _ u2 _=> ?_) λ_=>bad;have hz:=hz e;obtain⟨n,n1,_⟩:=M6 u.config m (Fl u2.1);rw[n1,ak];have five: ∀ (i:Nat) (s:qQ),(x.servers.set i s).length=5:=λi s=>by rw[EL];exact vc.len
 refine .br (λ_=> ?_) λ_=> ?_
 ·rw[Qt t.log t2.2.1 (NI t2 t3).2.2.2.2.2.1,ak];refine .ip (by show 0<=m/\m< (x.servers.length:Int);rw[vc.len];exact hm) (.at vc.len hm λw w1 hw=> ?_);have hw:=ok.1.2 w hw;refine .get (by rw[five];omega) λw' w1' hw'=> .ret ⟨.srvs (.self ok) (by rw[EL,EL]) λs hs=> ?_,?_,λ_=>hz⟩
  ·have all:=(NT ok.1 (s:=⟨w.up,w.intact,w.version,w.epoch,w.config,((cutAt t.log:Nat):Int),w.log,w.commit,w.learned⟩) hw m.toNat)
   have hw':=all.2 w' hw';exact (NT all (s:=⟨w'.up,w'.intact,w'.version,w'.epoch,w'.config,w'.first,t.log.drop (cutAt t.log),w'.commit,w'.learned⟩) ⟨hw'.1,by show List.length _<=_;rw[bR];have:=t2.2.1;omega,hw'.2.2⟩ m.toNat).2 s hs
  ·exact Co.set (t:=⟨w'.up,w'.intact,w'.version,w'.epoch,w'.config,w'.first,t.log.drop (cutAt t.log),w'.commit,w'.learned⟩) (Co.set (t:=⟨w.up,w.intact,w.version,w.epoch,w.config,((cutAt t.log:Nat):Int),w.log,w.commit,w.learned⟩) (.self x) w1 rfl rfl rfl rfl) w1' rfl rfl rfl rfl
 ·rw[Of t2.2.1,ak];exact .at vc.len hm λw w1 hw=> .ret ⟨(Kp.self ok).set (s:=⟨w.up,w.intact,w.version,w.epoch,w.config,w.first,t.log,w.commit,w.learned⟩) ⟨(ok.1.2 w hw).1,t2.2.1,(ok.1.2 w hw).2.2⟩ _,Co.set (t:=⟨w.up,w.intact,w.version,w.epoch,w.config,w.first,t.log,w.commit,w.learned⟩) (.self x) w1 rfl rfl rfl rfl,λ_=>hz⟩
theorem YH(x:qN)(ok:FS 1048576 x)(id:Int):Tt (λy=>y.2.1=true->Fi x=some (true,())/\0<=id/\id<5/\ ∃p,x.servers[id.toNat]? =some p/\FG p id=some (true,())/\ ∀M,FX p.config=some (M,())-> ∀m∈M,Hr x id m) (FF x id):=by
 obtain⟨b,b1,_,b2⟩:=Hz x ok id;unfold FF;rw[(GM x ok).1,ak,b1,ak,Fh];refine .br (λe=> ?_) λ_=> .ret nofun;obtain⟨hv,h0,h5,hp⟩:=b2 e;have vc:=Gl ok hv;refine .srv ok vc ⟨h0,h5⟩ λs s1 s2 s3=> ?_;obtain⟨⟨M,_⟩,hM,hy⟩:=Jy _ (Fl s2.1);rw[hM,ak];have hl:M.length<=maxLen:=by have :M.length<=10:=hy.1;unfold maxLen;omega
 refine .bind (.count (B:=F6) (E:=λe=> ∃ (c:qN) (a:Bool),Kp x c/\(a=true-> ∀m∈M,Hr x id m)/\e=((id,(),(),(),a,()),(fz,fc c,()),M,c.servers,c.sides,c.master.configs,c.places,())) M.length (λk (b:qN×Bool)=>((id,(),(),(),b.2,(k:Int),()),(fz,fc b.1,()),M,b.1.servers,b.1.sides,b.1.master.configs,b.1.places,())) (λk b=>Kp x b.1/\Co x b.1/\(b.2=true-> ∀j m,j<k->M[j]? =some m->Hr x id m)) (λb hb=> .end (EK _) (.ret ⟨b.1,b.2,hb.1,λe m hm=> ?_,rfl⟩)) (λk b hk hb=> .go (EJ.2 hk) (.ip ⟨EI k,EJ.2 hk⟩ (.get (tn hk) λz z1 hz=> .bind (ZZ b.1 hb.1.1 id z) λw hw=> .br (λhb2=> .ret ⟨(w.1,w.2.1),by rw[kT hl hk],hb.1.trans hw.1,hb.2.1.trans hw.2.1,λhw2 j m hj hm=> ?_⟩) λ_=> .ret ⟨(w.1,false),by rw[kT hl hk],hb.1.trans hw.1,hb.2.1.trans hw.2.1,nofun⟩))) (x,true) ⟨.self ok,.self x,λ_ j m h=>absurd h (Nat.not_lt_zero j)⟩) ?_
 ·obtain⟨j,hj,rfl⟩:=aQ hm;exact hb.2.2 e j _ hj (an hj)
 ·by_cases hjk:j=k
  ·subst hjk;have z1:M[j]? =some z:=z1;rw[z1] at hm;obtain rfl:=Option.some.inj hm;exact hb.2.1.hr (hw.2.2 hw2)
  ·exact hb.2.2 hb2 j m (by omega) hm
 rintro _ ⟨c,a,hc,ha,rfl⟩
 refine .bind (.count (B:=FN) (E:=λe=>e.1.2.2.1=true->a=true) M.length (λk (b:List qQ)=>((id,(),(),(),a,(k:Int),()),(fz,fc c,()),M,b,c.sides,c.master.configs,c.places,())) (λ_ b=>b.length=5/\ ∀s∈b,F1 1048576 s) (λb hb=> .end (EK _) (.ret λh=>h)) (λk b hk hb=> .go (EJ.2 hk) (.br (λ_=> .ip ⟨EI k,EJ.2 hk⟩ (.get (tn hk) λz _ hz=> .at hb.1 ⟨h0,h5⟩ λp _ _=> .at hb.1 (hy.2 z hz) λq _ hq=> .ret ⟨b.set z.toNat ⟨q.up,q.intact,q.version,q.epoch,q.config,q.first,q.log,((p.log.length:Nat):Int),q.learned⟩,by rw[kT hl hk],UL hb (s:=⟨q.up,q.intact,q.version,q.epoch,q.config,q.first,q.log,((p.log.length:Nat):Int),q.learned⟩) (hb.2 q hq) _⟩)) λ_=> .ret λh=>h)) c.servers ⟨hc.2.trans vc.len,hc.1.1.2⟩) ?_;intro e he;refine .ret λh=>⟨hv,h0,h5,s,s1,hp s s1,λM' hM' m hm=> ?_⟩
 rw[hM] at hM';obtain rfl:=(Prod.mk.inj (Option.some.inj hM')).1;exact ha (he h) m hm
end
section
theorem Xo{α:Type}{P:Prop}{b:Bool}{x y z:Option α}(h:br b x y=z)(h1:b=true->x=z->P)(h2:b=false->y=z->P):P:=by
 cases b with
 |true=>exact h1 rfl h
 |false=>exact h2 rfl h
theorem WT{s:qQ}{id n:Int}(ok:F1 1048576 s)(hv:FA s id=some (true,()))(hn:GO s.config id=some (n,()))(h3: (n==3)=false):s.first=0:=by
 have hc:=Fl ok.1;obtain⟨_,_,_,_,_,f6,f7,_⟩:=NI ok hv;obtain⟨e,e1,_⟩:=Np s.log (Fu ok.2.1);have no: ∀ {P:Prop},some (false,())=some (true,())->P:=λh=>by cases h
 unfold FA at hv;simp only[Gn,f6,f7,O6 s.config hc,hn,e1,ak,Fh,DG] at hv;refine Xo hv (λ_ hv=>Xo hv (λ_ hv=>Xo hv (λ_ hv=>Xo hv (λ_ hv=>Xo hv (λ_ hv=>Xo hv (λ_ hv=>Xo hv (λh _=>eq_of_beq h) λ_ h=>no h) λ_ hv=>Xo hv (λ_ hv=>Xo hv (λ_ h=>no h) λ_ hv=>Xo hv (λ_ h=>no h) λ_ hv=>Xo hv (λ_ h=>no h) λ_ hv=> ?_) λ_ h=>no h) λ_ h=>no h) λ_ h=>no h) λ_ h=>no h) λ_ h=>no h) λ_ h=>no h;rw[h3] at hv;exact eq_of_beq (Prod.mk.inj (Option.some.inj hv)).1
def Sm(x:qN)(l:List sf)(m:Int):Prop:=∀t,x.servers[m.toNat]? =some t->t.first+(t.log.length:Int)=(l.length:Int)/\0<=t.first/\t.log=l.drop t.first.toNat
theorem aak(x:qN)(ok:FS 1048576 x)(id m:Int):Tt (λy=>Kp x y.1/\(∀p,x.servers[id.toNat]? =some p->(∃p',y.1.servers[id.toNat]? =some p'/\p'.log=p.log)/\(∀k:Int,Sm x p.log k->Sm y.1 p.log k)/\(y.2.1=true->Sm y.1 p.log m))) (FB x id m):=by
 obtain⟨b,b1,_,b2⟩:=Hz x ok id;have bad:Tt (λy:qN×Bool×Unit=>Kp x y.1/\(∀p,x.servers[id.toNat]? =some p->(∃p',y.1.servers[id.toNat]? =some p'/\p'.log=p.log)/\(∀k:Int,Sm x p.log k->Sm y.1 p.log k)/\(y.2.1=true->Sm y.1 p.log m))) (some (x,false,())):=.ret ⟨.self ok,λp hp=>⟨⟨p,hp,rfl⟩,λ_ h=>h,nofun⟩⟩;unfold FB;rw[(GM x ok).1,ak,b1,ak,Fh];refine .br (λe=> ?_) λ_=>bad;obtain⟨hv,h0,h5,hp⟩:=b2 e;have vc:=Gl ok hv;refine .srv ok vc ⟨h0,h5⟩ λs s1 s2 s3=> .bind (Jy _ (Fl s2.1)) λy hy=> ?_;rw[(FD y.1 m (by have:=hy.1;unfold maxLen;omega)).1,ak,Fh];refine .br (λhm=> ?_) λ_=>bad;have hm:=hy.2 m (of_decide_eq_true hm);refine .bind (XD ok vc ⟨h0,h5⟩ hm) λz hz=> ?_;rw[Fh];refine .br (λe=> .srv ok vc ⟨h0,h5⟩ λt t1 t2 t3=> .srv ok vc ⟨h0,h5⟩ λu u1 u2 _=> ?_) λ_=>bad;have hz:=hz e;obtain rfl:t=s:=Option.some.inj (t1.symm.trans s1);obtain rfl:u=t:=Option.some.inj (u1.symm.trans s1);obtain⟨w,w1,w2,w3⟩:=MF ok vc hm;have hwc:w.config=u.config:=(hz u w s1 w1).2;obtain⟨n,n1,_⟩:=M6 u.config m (Fl u2.1);have pf:=NV u2 (hp u s1);obtain⟨n',n1',_,_,n4⟩:=Yp u.config m (Fl u2.1) pf.1;obtain rfl:n=n':=(Prod.mk.inj (Option.some.inj (n1.symm.trans n1'))).1;rw[n1,ak];have hlt:m.toNat<x.servers.length:=yw w1;have hlu:=u2.2.1
 have fin: ∀ (v:qQ),F1 1048576 v->v.first+(v.log.length:Int)=(u.log.length:Int)->0<=v.first->v.log=u.log.drop v.first.toNat->(m=id->v.log=u.log)-> ∀p,x.servers[id.toNat]? =some p->(∃p',(x.servers.set m.toNat v)[id.toNat]? =some p'/\p'.log=p.log)/\(∀k:Int,Sm x p.log k->Sm ⟨x.now,x.servers.set m.toNat v,x.sides,x.master,x.masterUp,x.lease,x.places⟩ p.log k)/\(true=true->Sm ⟨x.now,x.servers.set m.toNat v,x.sides,x.master,x.masterUp,x.lease,x.places⟩ p.log m):=by
  intro v _ v1 v2 v3 v4 p hp;obtain rfl:p=u:=Option.some.inj (hp.symm.trans s1)
  have here:Sm ⟨x.now,x.servers.set m.toNat v,x.sides,x.master,x.masterUp,x.lease,x.places⟩ p.log m:=λt ht=>by rw[show (x.servers.set m.toNat v)[m.toNat]? =some v from EP hlt] at ht;obtain rfl:=Option.some.inj ht;exact⟨v1,v2,v3⟩
  refine⟨?_,λk hk t ht=> ?_,λ_=>here⟩
  ·by_cases hmi:m.toNat=id.toNat
   ·rw[<-hmi];exact⟨v,EP hlt,v4 (by omega)⟩
   ·exact⟨p,by rw[ES hmi];exact hp,rfl⟩
  ·by_cases hmk:m.toNat=k.toNat
   ·rw[<-hmk] at ht;exact here t ht
   ·exact hk t (by rw[<-ES hmk];exact ht)
 have five: ∀ (i:Nat) (s:qQ),(x.servers.set i s).length=5:=λi s=>by rw[EL];exact vc.len
 refine .br (λhn3=> ?_) λhn3=> ?_
 ·rw[Qt u.log u2.2.1 (NI u2 s3).2.2.2.2.2.1,ak];refine .ip (by show 0<=m/\m< (x.servers.length:Int);rw[vc.len];exact hm) (.at vc.len hm λa a1 ha=> ?_);obtain rfl:a=w:=Option.some.inj (a1.symm.trans w1);refine .get (by rw[five];omega) λa' a1' ha'=> ?_;rw[show (x.servers.set m.toNat (⟨a.up,a.intact,a.version,a.epoch,a.config,((cutAt u.log:Nat):Int),a.log,a.commit,a.learned⟩:qQ))[m.toNat]? =some _ from EP hlt] at a1';obtain rfl:=Option.some.inj a1';rw[List.set_set];have hc:cutAt u.log<=u.log.length:=by unfold cutAt;omega
  have okv:F1 1048576 ⟨a.up,a.intact,a.version,a.epoch,a.config,((cutAt u.log:Nat):Int),u.log.drop (cutAt u.log),a.commit,a.learned⟩:=⟨w2.1,by show List.length _<=_;rw[bR];omega,w2.2.2⟩
  refine .ret ⟨(Kp.self ok).set okv _,fin _ okv ?_ (EI _) ?_ λh=>absurd (h.trans pf.2) (n4 (eq_of_beq hn3))⟩
  ·show ((cutAt u.log:Nat):Int)+((u.log.drop (cutAt u.log)).length:Int)=_;rw[bR];omega
  ·show u.log.drop (cutAt u.log)=u.log.drop ((cutAt u.log:Nat):Int).toNat;rw[cO]
 ·rw[Of u2.2.1,ak];refine .at vc.len hm λa a1 ha=> ?_;obtain rfl:a=w:=Option.some.inj (a1.symm.trans w1);have hf:a.first=0:=WT w2 w3 (by rw[hwc];exact n1) hn3;have okv:F1 1048576 ⟨a.up,a.intact,a.version,a.epoch,a.config,a.first,u.log,a.commit,a.learned⟩:=⟨w2.1,u2.2.1,w2.2.2⟩
  refine .ret ⟨(Kp.self ok).set okv _,fin _ okv ?_ ?_ ?_ λ_=>rfl⟩
  ·show a.first+(u.log.length:Int)=_;omega
  ·show 0<=a.first;omega
  ·show u.log=u.log.drop a.first.toNat;rw[hf];rfl
theorem Tt.and{α:Type}{Q Q':α->Prop}{r:Option α}(h:Tt Q r)(h':Tt Q' r):Tt (λa=>Q a/\Q' a) r:=by obtain⟨a,rfl,h⟩:=h;exact⟨a,rfl,h,h'.is rfl⟩
def Cm(S S':List qQ)(k:Nat)(M:List Int)(n:Int):Prop:=(∀ (j:Nat) s,S[j]? =some s-> ∃t,S'[j]? =some t/\t.config=s.config/\t.first=s.first/\t.log=s.log)/\ ∀j m,j<k->M[j]? =some m-> ∀t,S'[m.toNat]? =some t->t.commit=n
theorem Xu(x:qN)(ok:FS 1048576 x)(id:Int):Tt (λy=>y.2.1=true-> ∃q,0<=id/\id<5/\y.1.servers[id.toNat]? =some q/\Fk q.config=some (true,())/\id=q.config.primary/\ ∀M,FX q.config=some (M,())-> ∀m∈M,0<=m/\m<5/\ ∀t,y.1.servers[m.toNat]? =some t->t.commit=(q.log.length:Int)/\t.first+(t.log.length:Int)=(q.log.length:Int)/\0<=t.first/\t.log=q.log.drop t.first.toNat) (FF x id):=by
 obtain⟨b,b1,_,b2⟩:=Hz x ok id;unfold FF;rw[(GM x ok).1,ak,b1,ak,Fh];refine .br (λe=> ?_) λ_=> .ret nofun;obtain⟨hv,h0,h5,hp⟩:=b2 e;have vc:=Gl ok hv;refine .srv ok vc ⟨h0,h5⟩ λs s1 s2 s3=> ?_;have pf:=NV s2 (hp s s1);obtain⟨⟨M,_⟩,hM,hy⟩:=Jy _ (Fl s2.1);rw[hM,ak];have hl:M.length<=maxLen:=by have :M.length<=10:=hy.1;unfold maxLen;omega
 refine .bind (.count (B:=F6) (E:=λe=> ∃ (c:qN) (a:Bool),Kp x c/\Co x c/\(∃p,c.servers[id.toNat]? =some p/\p.log=s.log)/\(a=true-> ∀m∈M,Sm c s.log m)/\e=((id,(),(),(),a,()),(fz,fc c,()),M,c.servers,c.sides,c.master.configs,c.places,())) M.length (λk (b:qN×Bool)=>((id,(),(),(),b.2,(k:Int),()),(fz,fc b.1,()),M,b.1.servers,b.1.sides,b.1.master.configs,b.1.places,())) (λk b=>Kp x b.1/\Co x b.1/\(∃p,b.1.servers[id.toNat]? =some p/\p.log=s.log)/\(b.2=true-> ∀j m,j<k->M[j]? =some m->Sm b.1 s.log m)) (λb hb=> .end (EK _) (.ret ⟨b.1,b.2,hb.1,hb.2.1,hb.2.2.1,λe m hm=> ?_,rfl⟩)) (λk b hk hb=> .go (EJ.2 hk) (.ip ⟨EI k,EJ.2 hk⟩ (.get (tn hk) λz z1 hz=> .bind ((ZZ b.1 hb.1.1 id z).and (aak b.1 hb.1.1 id z)) λw hw=> ?_))) (x,true) ⟨.self ok,.self x,⟨s,s1,rfl⟩,λ_ j m h=>absurd h (Nat.not_lt_zero j)⟩) ?_
 ·obtain⟨j,hj,rfl⟩:=aQ hm;exact hb.2.2.2 e j _ hj (an hj)
 ·obtain⟨p,p1,p2⟩:=hb.2.2.1;obtain⟨⟨p',p1',p2'⟩,g1,g2⟩:=hw.2.2 p p1;have hpl: ∃p,w.1.servers[id.toNat]? =some p/\p.log=s.log:=⟨p',p1',p2'.trans p2⟩
  rw[p2] at g1 g2;refine .br (λhb2=> .ret ⟨(w.1,w.2.1),by rw[kT hl hk],hb.1.trans hw.2.1,hb.2.1.trans hw.1.2.1,hpl,λhw2 j m hj hm=> ?_⟩) λ_=> .ret ⟨(w.1,false),by rw[kT hl hk],hb.1.trans hw.2.1,hb.2.1.trans hw.1.2.1,hpl,nofun⟩;by_cases hjk:j=k
  ·subst hjk;have z1:M[j]? =some z:=z1;rw[z1] at hm;obtain rfl:=Option.some.inj hm;exact g2 hw2
  ·exact g1 m (hb.2.2.2 hb2 j m (by omega) hm)
 rintro _ ⟨c,a,hc,hco,⟨p,p1,p2⟩,ha,rfl⟩
 have len5:c.servers.length=5:=hc.2.trans vc.len
 have endCm: ∀b:List qQ,Cm c.servers b M.length M (s.log.length:Int)-> ∀m∈M,∀t,b[m.toNat]? =some t->t.commit=(s.log.length:Int):=λb hb m hm=>by obtain⟨j,hj,rfl⟩:=aQ hm;exact hb.2 j _ hj (an hj)
 refine .bind (.count (B:=FN) (E:=λe=>(e.1.2.2.1=true->a=true)/\(a=true->Cm c.servers e.2.2.1 M.length M (s.log.length:Int))) M.length (λk (b:List qQ)=>((id,(),(),(),a,(k:Int),()),(fz,fc c,()),M,b,c.sides,c.master.configs,c.places,())) (λk b=>b.length=5/\Cm c.servers b k M (s.log.length:Int)) (λb hb=> .end (EK _) (.ret ⟨λh=>h,λ_=>hb.2⟩)) (λk b hk hb=> .go (EJ.2 hk) (.br (λ_=> .ip ⟨EI k,EJ.2 hk⟩ (.get (tn hk) λz z1 hz=> .at hb.1 ⟨h0,h5⟩ λu u1 _=> .at hb.1 (hy.2 z hz) λq q1 hq=> .ret ⟨b.set z.toNat ⟨q.up,q.intact,q.version,q.epoch,q.config,q.first,q.log,((u.log.length:Nat):Int),q.learned⟩,by rw[kT hl hk],by rw[EL];exact hb.1,?_,?_⟩)) λh=> .ret ⟨λh=>h,λh'=>by rw[h'] at h;cases h⟩)) c.servers ⟨len5,λj t h=>⟨t,h,rfl,rfl,rfl⟩,λj m h=>absurd h (Nat.not_lt_zero j)⟩) ?_
 ·intro j t ht;obtain⟨t',a1,a2,a3,a4⟩:=hb.2.1 j t ht;by_cases hj:z.toNat=j
  ·subst hj;obtain rfl:t'=q:=Option.some.inj (a1.symm.trans q1);exact⟨_,EP (yw q1),a2,a3,a4⟩
  ·exact⟨t',by rw[ES hj];exact a1,a2,a3,a4⟩
 ·intro j m hj hm t ht;obtain⟨u',a1,_,_,a4⟩:=hb.2.1 _ _ p1;obtain rfl:u'=u:=Option.some.inj (a1.symm.trans u1);have hul:u'.log=s.log:=a4.trans p2;by_cases hzm:z.toNat=m.toNat
  ·rw[<-hzm,EP (yw q1)] at ht;rw[<-Option.some.inj ht];show ((u'.log.length:Nat):Int)=_;rw[hul]
  ·rw[ES hzm] at ht;by_cases hjk:j=k
   ·subst hjk;have z1:M[j]? =some z:=z1;rw[z1] at hm;exact absurd (congrArg Int.toNat (Option.some.inj hm)) hzm
   ·exact hb.2.2 j m (by omega) hm t ht
 intro e he;refine .ret λh=> ?_;have ha':=he.1 h;have hcm:=he.2 ha';obtain⟨q,q1,q2,q3,q4⟩:=hcm.1 _ _ p1;obtain⟨p'',r1,_,_,_,r5⟩:=hco.srv _ _ s1;obtain rfl:p''=p:=Option.some.inj (r1.symm.trans p1);have hqc:q.config=s.config:=q2.trans r5;have hql:q.log=s.log:=q4.trans p2;refine⟨q,h0,h5,q1,by rw[hqc];exact pf.1,by rw[hqc];exact pf.2,λM' hM' m hm=> ?_⟩;rw[hqc,hM] at hM';obtain rfl:=(Prod.mk.inj (Option.some.inj hM')).1;refine⟨(hy.2 m hm).1,(hy.2 m hm).2,λt ht=> ?_⟩;obtain⟨w,w1,_⟩: ∃w,c.servers[m.toNat]? =some w/\True:=⟨_,an (by have:=hy.2 m hm;omega),trivial⟩
 obtain⟨t',t1,t2,t3,t4⟩:=hcm.1 _ _ w1;obtain rfl:t'=t:=Option.some.inj (t1.symm.trans ht);obtain⟨d1,d2,d3⟩:=ha ha' m hm w w1;rw[hql,t3,t4];exact⟨endCm _ hcm m hm t' ht,d1,d2,d3⟩
end
section
theorem ZY(x:qN)(ok:FS 1048576 x)(id:Int): ∃n,IX x id=some (n,())/\Hg x id=some (n,())/\((∀q,x.servers[id.toNat]? =some q->q.commit=(q.log.length:Int))->n=0):=by
 obtain⟨b,b1,b2,b3⟩:=Hz x ok id;unfold IX Hg;simp only[b1,b2,ak,Fh];cases b with
 |false=>exact⟨0,rfl,rfl,λ_=>rfl⟩
 |true=>obtain⟨hv,h0,h5,_⟩:=b3 rfl;obtain⟨s,s1,_⟩:=MF ok (Gl ok hv) ⟨h0,h5⟩;simp only[DG,C7,if_pos h0,s1,ak];refine⟨_,rfl,rfl,λh=> ?_⟩;rw[h s rfl,Int.sub_self];rfl
end
section
theorem SX(a b:List sf)(ha:a.length<=maxLen): ∃n:Nat,HW a b=some ((n:Int),())/\n<=a.length/\n<=b.length/\a.take n=b.take n/\(n<a.length->n<b.length->a[n]? ≠b[n]?):=by
 rcases Nq (B:=GI) a.length (λk=>((a,b,(k:Int),()),(),())) ((((a.length:Nat):Int),()),(),()) (λk=>(((k:Int),()),(),())) (λk=>decide (a[k]? ≠b[k]?))
  (by simp only[GI];rw[j6,if_neg (by omega)])
  (λk hk=>by
    have c1: (k:Int)< (a.length:Int):=by omega
    have c2: (0:Int)<=(k:Int):=by omega
    by_cases hk':k<b.length
    ·have c3: (k:Int)< (b.length:Int):=by omega
     simp only[GI,Xy,j6,C7,if_pos c1,if_pos c2,if_pos c3,cO,an hk,an hk',ak,kT ha hk];by_cases h:a[k] =b[k]<;>simp[h]
    ·have c3: ¬ (k:Int)< (b.length:Int):=by omega
     simp only[GI,j6,if_pos c1,if_neg c3,an hk,cz (show b.length<=k by omega)];simp) with ⟨k1,k2⟩| ⟨i,hi,k1,k2,k3⟩
 ·have eq: ∀k,k<a.length->a[k]? =b[k]? :=λk hk=>by simpa using k2 k hk
  have hl:a.length<=b.length:=by
   rcases bu a.length with h|h
   ·omega
   ·have:=eq (a.length-1) (by omega);rw[an (by omega)] at this;have:=yw this.symm;omega
  refine⟨a.length,?_,az _,hl,?_,λh=>absurd h (dI _)⟩
  ·unfold HW;rw[show KU ((a,b,0,()),(),())=_ from k1];rfl
  ·refine bE λk=> ?_;rw[bz,bz];split
   ·exact eq k (by assumption)
   ·rfl
 ·have eq: ∀k,k<i->a[k]? =b[k]? :=λk hk=>by simpa using k3 k hk
  have hl:i<=b.length:=by
   rcases bu i with h|h
   ·omega
   ·have:=eq (i-1) (by omega);rw[an (by omega)] at this;have:=yw this.symm;omega
  refine⟨i,?_,by omega,hl,?_,λ_ _=>by simpa using k2⟩
  ·unfold HW;rw[show KU ((a,b,0,()),(),())=_ from k1];rfl
  ·refine bE λk=> ?_;rw[bz,bz];split
   ·exact eq k (by assumption)
   ·rfl
theorem YM{a b:List sf}(ha:a.length<=maxLen)(h: ∀ (i:Nat) e,a[i]? =some e->b[i]? =some e):KJ a b=some (true,()):=by
 obtain⟨n,n1,n2,n3,_,n5⟩:=SX a b ha
 have hn:n=a.length:=by
  rcases Nat.lt_or_eq_of_le n2 with hlt|e
  ·have hb:=h n _ (an hlt);exact absurd ((an hlt).trans hb.symm) (n5 hlt (yw hb))
  ·exact e
 unfold KJ;rw[n1,ak,hn,beq_self_eq_true]
theorem UT(a:List sf)(ha:a.length<=maxLen):KJ a a=some (true,()):=YM ha λ_ _ h=>h
end
section
section
variable [dL]
theorem VD{x:Hd}{l:List Int}(h:ly x=some l)(hl:l.length<=maxLen)(hb: ∀m∈l,0<=m/\m<=255):Tt (λy=>FS 1048576 y.1) (G0 x):=by unfold G0;exact .dn (ZV h hl hb) λc y hc hy=> .ret hy.1
theorem Xx{x:Hd}{l:List Int}(h:ly x=some l)(hl:l.length<=maxLen)(hb: ∀m∈l,0<=m/\m<=255):Tt (λy=>FS 1048576 y.1) (Hj x):=by unfold Hj;exact .dn (ZV h hl hb) λc y hc hy=> .dn (Gf hc _) λc2 _ _ _=> .ip rfl (.ret hy.1)
theorem RJ(x:Hd)(l:List Int)(h:ly x=some l)(hl:l.length<=maxLen)(hb: ∀m∈l,0<=m/\m<=255):JG x=some (true,()):=by
 refine Tt.tru ?_;unfold JG;refine .bind (Q:=T1) (by unfold XC;exact .ret trivial) λ_ _=> .br (λ_=> .ret rfl) λ_=> .bind (VD h hl hb) λa ha=> ?_;obtain⟨S,b,s1,i1,oky,hlen⟩:=SW a.1 ha a.2.1;have hsm:=(Xu a.1 ha a.2.1).is s1;obtain⟨p,p1,p2,_⟩:=ZY a.1 ha a.2.1;obtain⟨g,g1,g2⟩:=US a.1 ha a.2.1;simp only[i1,s1,p1,p2,g1,g2,aau _ oky,ak,beq_self_eq_true,dk,CS];rw[Fh];refine .br (λhb2=> ?_) λ_=> .ret rfl;obtain⟨q,h0,h5,q1,q2,q3,q4⟩:=hsm hb2;have q1:S[a.2.1.toNat]? =some q:=q1;have okq:F1 1048576 q:=oky.1.2 q (ay q1);have hS5:=yw q1;have rng:0<=a.2.1/\a.2.1< (S.length:Int):=by omega
 obtain⟨M,m1,m2,m3,_,_,m6⟩:=O7 q.config (Fl okq.1);have hM:=q4 M m1;have mm:M.length<=maxLen:=by unfold maxLen;omega
 have okl:=okq.2.1;refine .ip rng ?_;simp only[q1,ak,cF,EM];refine .ip (Fa (aM _)) (.ip (Fa (aM _)) ?_);rw[show Ic _=_ from m2,ak];refine .bind (.count (B:=Il) (E:=Sum.elim (λ_=>False) λe=>e=((x,(),a.2.1,(),()),(fc (J1 a.1 S),()),S,a.1.sides,a.1.master.configs,a.1.places,())) M.length (λk (_:Unit)=>((x,a.2.1,(),(),(),(k:Int),()),(fc (J1 a.1 S),(q.up,q.intact,q.version,q.epoch,q.config.epoch,q.config.primary,(a.2.1.toNat,0,q.config.replicas.length),(a.2.1.toNat,0,q.config.witnesses.length),q.first,(a.2.1.toNat,0,q.log.length),q.commit,(a.2.1.toNat,0,q.learned.length),()),()),M,S,a.1.sides,a.1.master.configs,a.1.places,())) (λ_ _=>True) (λ_ _=> .end (EK _) (.ret rfl)) (λk _ hk _=> ?_) () trivial) λe he=> ?_
 ·refine .go (EJ.2 hk) (.ip ⟨EI k,EJ.2 hk⟩ (.get (tn hk) λz _ hz=> ?_));obtain⟨z0,z5,hz2⟩:=hM z hz
  have hzl:z.toNat<S.length:=by have hv:=(YH a.1 ha a.2.1).is s1 hb2;have:=(Gl ha hv.1).len;omega
  obtain⟨t,ht⟩: ∃t,S[z.toNat]? =some t:=⟨_,an hzl⟩
  obtain⟨t1,t2,t3,t4⟩:=hz2 t ht;refine .ip (by show 0<=z/\z< (S.length:Int);omega) ?_;dsimp only;have okt:=oky.1.2 t (ay ht);have tl:=okt.2.1
  have e1: (q.log.drop t.first.toNat).take ((q.log.length:Int).toNat-t.first.toNat)=t.log:=by rw[t4];exact bS (by rw[bR];omega)
  simp only[ht,q1,ak,cF,EM,aM];rw[of (n:=t.first+((t.log.length:Nat):Int)) (by omega) (by omega),t1,t2,beq_self_eq_true];refine .br nofun λ_=> .br nofun λ_=> .ip ⟨t3,by omega,by omega⟩ (.ip (az _) (.ip (by omega) ?_));rw[e1,UT t.log (Fu tl)];exact .ret ⟨(),by rw[kT mm hk],trivial⟩
 ·cases e with
  |inl e=>exact he.elim
  |inr e=>
   obtain rfl:=he;refine .bind (Xx h hl hb) λd hd=> ?_;obtain⟨T,b',u1,u2,okd,_⟩:=push d.1 hd d.2.1 d.2.2.1;obtain⟨n,_,n2,n3⟩:=ZY (J1 a.1 S) oky a.2.1;rw[u1,u2,ak,ak,beq_self_eq_true];refine .br (λ_=> ?_) nofun;rw[aau _ okd,ak];refine .br (λ_=> ?_) nofun;show Tt _ ((Hg (J1 a.1 S) a.2.1).bind _);rw[n2,ak,n3 λq' hq'=> ?_]
   ·exact .ret rfl
   ·obtain rfl:q'=q:=Option.some.inj ((show S[a.2.1.toNat]? =some q' from hq').symm.trans q1);have hp:=(m6 q2 a.2.1).2 (.inl (by rw[q3];exact (L5 (Fl okq.1) q2).2.2.1));exact ((hM _ hp).2.2 q' q1).1
end
end
end Go.Proofs.YtkghndikalnipabGreat.En
