/- Plain laws. -/
import Derived.Test.YtlaicbcfjcplhaaGreatZPT6
namespace Go.Proofs.YtlaicbcfjcplhaaGreat.En
open Go
section
variable [dQ]
theorem Tt.dn {α β:Type} {Q:α->Prop} {Q':β->Prop} {r:Option (List fV×α)} {k:List fV×α->Option β} (h:Dn Q r) (hk: ∀c a,fE c->Q a->Tt Q' (k ([c],a))):Tt Q' (r.bind k):=by obtain⟨c,a,rfl,h1,h2⟩:=h;exact hk c a h1 h2
theorem Dn.tt {α β:Type} {Q:α->Prop} {Q':β->Prop} {r:Option α} {k:α->Option (List fV×β)} (h:Tt Q r) (hk: ∀a,Q a->Dn Q' (k a)):Dn Q' (r.bind k):=by obtain⟨a,rfl,h⟩:=h;exact hk a h
theorem NR {α:Type} {Q:α->Prop} {r:Option (List fV×α)} (h:Tt (fun y=> ∃c,y.1= [c] /\fE c/\Q y.2) r):Dn Q r:=by obtain⟨⟨_,a⟩,rfl,c,rfl,h1,h2⟩:=h;exact⟨c,a,rfl,h1,h2⟩
theorem NS {c:fV} (h:fE c):Dn (fun y:List Int×Unit=>rA y.1) (pq [c]):=by
 refine NR ?_;unfold pq;refine .bind (.count (B:=tD) (E:=fun e=> ∃c,e.2.2.1= [c] /\fE c/\rA e.2.2.2.1) 5 (fun k (b:fV×List Int)=>(((),(),(k:Int),()),(),[b.1],b.2,())) (fun k b=>fE b.1/\b.2.length<=k/\SS b.2/\ ∀y∈b.2,0<=y/\y< (k:Int)) (fun b hb=> .end (aV _) (.ret ⟨b.1,rfl,hb.1,u9 hb.2.2.1 hb.2.2.2⟩)) (fun k b hk hb=> ?_) (c,[]) ⟨h,aq _,List.Pairwise.nil,nofun⟩) fun y hy=> .ret hy;obtain⟨h1,h2,h3,h4⟩:=hb;have sw:=dV (n:=5) (by decide) hk;have stay: ∀y∈b.2,0<=y/\y< ((k+1:Nat):Int):=fun y hy=>by have:=h4 y hy; omega
 refine .go (show (k:Int)<5 by omega) (.dn (jJ h1 2) fun c1 _ hc _=> .ip rfl (.br (fun _=> .ip (by show (b.2++ [(k:Int)]).length*8<=2 ^ 40; rw[az,ax]; omega) (.ret ⟨(c1,b.2++ [(k:Int)]),by rw[sw],hc,by rw[az,ax]; omega,?_,fun y hy=> ?_⟩)) fun _=> .ret ⟨(c1,b.2),by rw[sw],hc,cd h2,h3,stay⟩))
 ·exact db.2 ⟨h3,dp _ _,fun y hy z hz=>by rw[aE.1 hz]; exact (h4 y hy).2⟩
 ·rcases bf.1 hy with hy|hy
  ·exact stay y hy
  ·rw[aE.1 hy];omega
omit [dQ] in
theorem NT {l:List eG} (h5:l.length=5) (h: ∀p∈l,(0<=p.rack/\p.rack<=9)/\(0<=p.capacity/\p.capacity<=9)/\0<=p.load/\p.load<=99):fq l=some (true,()):=by
 have lm:l.length<=maxLen:=by unfold maxLen; omega
 have gm:Tt (fun y:Bool×Unit=>y.1=true) (fq l):=by
  unfold fq;refine .bind (.count (B:=jL) (E:=Sum.elim (fun _=>False) fun e=>e.1.1=l) l.length (fun k (_:Unit)=>((l,(k:Int),()),(),())) (fun _ _=>True) (fun _ _=> .end (aV _) (.ret rfl)) (fun k _ hk _=> .go (aG.2 hk) (.ip (au k) (.get (tn hk) fun p _ hp=> ?_))) () trivial) fun y hy=> ?_
  ·obtain⟨h1,_⟩:=h p hp;rw[gl,ey.2 h1,ae];refine .br (fun h=>by cases h) fun _=> .ip (au k) (.get (tn hk) fun q _ hq=> ?_);obtain⟨_,h2,_⟩:=h q hq;rw[gl,ey.2 h2,ae];refine .br (fun h=>by cases h) fun _=> .ip (au k) (.get (tn hk) fun r _ hr=> ?_);obtain⟨_,_,h3⟩:=h r hr;rw[gl,ey.2 h3,ae];exact .br (fun h=>by cases h) fun _=> .ret ⟨(),by rw[dV lm hk],trivial⟩
  ·cases y with
   |inl y=>exact hy.elim
   |inr y=>refine .ret ?_;show ((y.1.1.length:Int)==5)=true;rw[show y.1.1=l from hy,h5];rfl
 obtain⟨⟨b,_⟩,e,rfl⟩:=gm;exact e
theorem Kt {c:fV} (h:fE c):Dn (fun y:List eG×Unit=>y.1.length=5/\fq y.1=some (true,())) (oA [c]):=by
 refine NR ?_;unfold oA;refine .bind (.count (B:=pW) (E:=fun e=> ∃c,e.2.2.1= [c] /\fE c/\e.2.2.2.1.length=5/\fq e.2.2.2.1=some (true,())) 5 (fun k (b:fV×List eG)=>(((),(),(k:Int),()),(),[b.1],b.2,())) (fun k b=>fE b.1/\b.2.length=k/\ ∀p∈b.2,(0<=p.rack/\p.rack<=9)/\(0<=p.capacity/\p.capacity<=9)/\0<=p.load/\p.load<=99) (fun b hb=> .end (aV _) (.ret ⟨b.1,rfl,hb.1,hb.2.1,NT hb.2.1 hb.2.2⟩)) (fun k b hk hb=> ?_) (c,[]) ⟨h,rfl,nofun⟩) fun y hy=> .ret hy;obtain⟨h1,h2,h3⟩:=hb;refine .go (show (k:Int)<5 by omega) (.dn (l7 h1 (n:=4) (by omega)) fun c1 x g1 hx=> .ip rfl (.dn (l7 g1 (n:=4) (by omega)) fun c2 y g2 hy=> .ip rfl (.dn (l7 g2 (n:=4) (by omega)) fun c3 z g3 hz=> .ip rfl (.ip ?_ (.ret ⟨(c3,b.2++ [⟨x.1,1+y.1,z.1⟩]),?_,g3,by rw[az,ax,h2],fun p hp=> ?_⟩)))))
 ·rw[az,ax,show List.length _=k from h2];omega
 ·dsimp only;rw[dV (n:=5) (by decide) hk,eL (n:=1+y.1) (by omega) (by omega)]
 ·rcases bf.1 hp with hp|hp
  ·exact h3 p hp
  ·rw[aE.1 hp];show (0<=x.1/\x.1<=9)/\(0<=1+y.1/\1+y.1<=9)/\0<=z.1/\z.1<=99;omega
omit [dQ] in
theorem Ku (v:Int):Tt (fun y=>gr 1048576 y.1) (nh v):=by
 unfold nh;rw[gl,ae];have ok: ∀v:Int,gr 1048576 ⟨true,true,v,0,⟨0,0,[],[]⟩,0,[],0,[]⟩:=fun _=>⟨⟨aA _,aA _⟩,aA _,aA _⟩
 exact .br (fun _=> .ret (ok _)) fun _=> .ret (ok _)
omit [dQ] in
theorem Rk (l:List eG) (hl:l.length<=1048576):Tt (fun y=>fO 1048576 y.1/\(fq l=some (true,())->y.1.servers.length=5)) (nJ l):=by
 obtain⟨v,v1,_⟩:=qq l (eD hl);unfold nJ;rw[v1,ae,dS];refine .br (fun e=> .ip (by decide) (.ip ?_ (.bind (.count (B:=nI) (E:=fun e=> ∃S:List dT,S.length=5/\(∀s∈S,gr 1048576 s)/\e=(((),(),()),(fz,(0,(),(),(),0,3,0,0,0,(),()),()),S,List.replicate (5:Int).toNat (0:Int),[] ++l,())) 5 (fun k (S:List dT)=>(((),(),(k:Int),()),(fz,(0,(),(),(),0,3,0,0,0,(),()),()),S,List.replicate (5:Int).toNat (0:Int),[] ++l,())) (fun k S=>S.length=k/\ ∀s∈S,gr 1048576 s) (fun S hS=> .end (aV _) (.ret ⟨S,hS.1,hS.2,rfl⟩)) (fun k S hk hS=> .go (show (k:Int)<5 by omega) (.bind (Ku 1) fun s hs=> .ip ?_ (.ret ⟨S++ [s.1],by rw[dV (n:=5) (by decide) hk],by rw[az,ax,hS.1],fun t ht=> ?_⟩))) [] ⟨rfl,nofun⟩) ?_))) fun _=> .ret ⟨⟨⟨aA _,nofun⟩,aA _,⟨aA _,nofun⟩,aA _⟩,fun e=>by simp_all⟩
 ·rw[aZ];omega
 ·rw[az,ax,show List.length _=k from hS.1];omega
 ·exact (bf.1 ht).elim (hS.2 t) fun e=>by rw[aE.1 e]; exact hs
 ·rintro _ ⟨S,h5,hS,rfl⟩
  exact .ret ⟨⟨⟨by show S.length<=_; omega,hS⟩,by show (List.replicate (5:Int).toNat (0:Int)).length<=_; decide,⟨aA _,nofun⟩,hl⟩,fun _=>h5⟩
omit [dQ] in
theorem NU {e p:Int} {R W:List Int} (he:1<=e/\e<=20) (hR:rA R) (hW:rA W) (hp:p∈R) (hd: ∀y∈R,y∉W):eB ⟨e,p,R,W⟩=some (true,()):=by have hr:=hR.len;have hw:=hW.len;unfold eB;simp only[gl,ey.2 he,ae,eg,(vD hR).1,(vD hW).1,(gf R p (by unfold maxLen; omega)).1,decide_eq_true hp,x0 R W hR (by unfold maxLen; omega)];rw[List.filter_eq_nil_iff.2 fun y hy h=>hd y hy (of_decide_eq_true h)];rfl
theorem Rl {c:fV} (h:fE c) (e:Int):Dn (fun y:dU×Unit=>y.1.epoch=e/\y.1.replicas.length<=5/\y.1.witnesses.length<=5/\(1<=e/\e<=20->eB y.1=some (true,()))) (mZ [c] e):=by
 unfold mZ;refine .bind (l7 h (n:=5) (by omega)) fun c1 p h1 hp=> .iteP rfl (.bind (NS h1) fun c2 l h2 hl=> .iteP rfl ?_);obtain⟨r,r1,r2,r3,_⟩:=Pz l.1 p.1 (by have:=hl.len; omega) hl.pair;rw[show jR _ _=_ from r1,ae]
 have gm: ∀R:List Int,rA R->p.1∈R->Dn (fun y:dU×Unit=>y.1.epoch=e/\y.1.replicas.length<=5/\y.1.witnesses.length<=5/\(1<=e/\e<=20->eB y.1=some (true,()))) ((gg [c2] 2).bind fun y5=>iteP (y5.1.length=([c2]:List fV).length) (br y5.2.1 ((pq y5.1).bind fun y6=>iteP (y6.1.length=y5.1.length) ((fL y6.2.1 R).bind fun y7=>br (decide ((y7.1.length:Int)>0)) (iteP (0<=(0:Int)/\(0:Int)<=(1:Int)/\(1:Int)<=((y7.1.length:Nat):Int)) (iteP ((0+(0:Int).toNat)=0/\((1:Int).toNat-(0:Int).toNat)<=y7.1.length) (some (y6.1,(⟨e,p.1,R,(y7.1.take ((1:Int).toNat-(0:Int).toNat))⟩:dU),())) (iteP ((0+(0:Int).toNat)+((1:Int).toNat-(0:Int).toNat)<=y7.1.length) (some (y6.1,(⟨e,p.1,R,((y7.1.drop (0+(0:Int).toNat)).take ((1:Int).toNat-(0:Int).toNat))⟩:dU),())) none)) none) (some (y6.1,(⟨e,p.1,R,([]:List Int)⟩:dU),()))) none) (some (y5.1,(⟨e,p.1,R,([]:List Int)⟩:dU),()))) none):=fun R hR hpR=>by
  have nil:rA [] :=fun k hk=>by simp at hk
  have rl:=hR.len;refine .bind (jJ h2 2) fun c3 _ h3 _=> .iteP rfl (.br (fun _=> .bind (NS h3) fun c4 w h4 hw=> .iteP rfl ?_) fun _=> .ret h3 ⟨rfl,rl,aA _,fun he=>NU he hR nil hpR fun _ _=>nofun⟩);rw[show fL _ _=_ from CA w.1 R hw (by unfold maxLen; omega),ae];have hf:=hw.filter fun x=> !decide (x∈R)
  have hn: ∀y∈R,y∉w.1.filter fun x=> !decide (x∈R):=fun y hy h=>by have:=(cF.1 h).2;simp[hy] at this
  have fl:=hf.len;generalize w.1.filter (fun x=> !decide (x∈R))=f at hf hn fl;refine .br (fun hpos=> ?_) fun _=> .ret h4 ⟨rfl,rl,aA _,fun he=>NU he hR nil hpR fun _ _=>nofun⟩;have hpos: (f.length:Int)>0:=of_decide_eq_true hpos;refine .iteP (by show (0:Int)<=0/\(0:Int)<=1/\(1:Int)<=(f.length:Int); omega) (.iteP (by show 0=0/\1<=f.length; omega) (.ret h4 ⟨rfl,rl,?_,fun he=>NU he hR ?_ hpR fun y hy h=>hn y hy (bR h)⟩))
  ·show (f.take _).length<=5;rw[aY];omega
  ·exact u9 (hf.pair.sublist (List.take_sublist _ _)) fun y hy=>o9 hf y (bR hy)
 have ra:rA r:=u9 r2 fun y hy=>((r3 y).1 hy).elim (fun e=>by rw[e]; exact hp) (o9 hl y);refine .br (fun _=>gm [p.1] (u9 (dp _ _) fun y hy=>by rw[aE.1 hy]; exact hp) (aE.2 rfl)) fun _=>gm r ra ((r3 _).2 (.inl rfl))
omit [dQ] in
theorem Rm {M:dY} (h:ri 1048576 M) (hl:M.configs.length<=1000) {c:dU} (hc:iR 1048576 c):ri 1048576 ⟨M.configs++ [c],M.activated⟩:=⟨by show (M.configs++ [c]).length<=_; rw[az,ax]; omega,fun d hd=>(bf.1 hd).elim (h.2 d) fun e=>by rw[aE.1 e]; exact hc⟩
theorem Sz {c:fV} (h:fE c):Dn (fun y:List Int×Unit=>y.1.length<=6) (vx [c]):=by
 unfold vx;refine .bind (NS h) fun c1 l h1 hl=> .iteP rfl (.bind (jJ h1 _) fun c2 _ h2 _=> .iteP rfl (.br (fun _=> .bind (gC h2 (by simp)) fun c3 x h3 _=> .iteP rfl ?_) fun _=> .ret h2 ?_))
 ·have:=hl.len;refine .iteP ?_ (.ret h3 ?_)
  ·show (l.1++ [x.1]).length*8<=2 ^ 40;rw[az,ax];omega
  ·show (l.1++ [x.1]).length<=6;rw[az,ax];omega
 ·exact aL hl.len (by omega)
theorem NV {c:fV} (h:fE c):Dn (fun y:dU×Unit=>iR 1048576 y.1) (vy [c]):=by
 unfold vy;refine .bind (gi h _) fun c1 e h1 _=> .iteP rfl (.bind (Rl h1 _) fun c2 g h2 hg=> .iteP rfl (.bind (gi h2 _) fun c3 x h3 _=> .iteP rfl ?_));obtain⟨_,g1,g2,_⟩:=hg;have ok:iR 1048576 g.1:=⟨by omega,by omega⟩
 refine .br (fun _=> .bind (gC h3 (by simp)) fun c4 _ h4 _=> .iteP rfl (.ret h4 ok)) fun _=> .br (fun _=> .bind (gi h3 _) fun c4 _ h4 _=> .iteP rfl (.ret h4 ok)) fun _=> .br (fun _=> .bind (Sz h3) fun c4 l h4 hl=> .iteP rfl (.ret h4 ⟨by show l.1.length<=_; omega,ok.2⟩)) fun _=> .br (fun _=> .bind (Sz h3) fun c4 l h4 hl=> .iteP rfl (.ret h4 ⟨ok.1,by show l.1.length<=_; omega⟩)) fun _=> .ret h3 ok
theorem Tl {c:fV} (h:fE c):Dn (fun y:dY×Unit=>ri 1048576 y.1/\y.1.configs.length<=10) (uP [c]):=by
 unfold uP;refine .bind (l7 h (n:=5) (by omega)) fun c1 n h1 hn=> .iteP rfl (NR (.bind (.loop (B:=tE) (E:=fun e=> ∃c,e.2.2.1= [c] /\fE c/\ri 1048576 ⟨e.2.2.2.1,e.2.1.2.1.2.1⟩/\e.2.2.2.1.length<=10) (fun s=> ∃ (c:fV) (M:dY) (k:Int),s=(((),(),(),k,()),(((),0,()),((),M.activated,()),()),[c],M.configs,())/\fE c/\ri 1048576 M/\0<=k/\M.configs.length+k.toNat<=10) (fun s=>s.1.2.2.2.1.toNat) ?_ ⟨c1,⟨[],0⟩,n.1,rfl,h1,⟨aA _,nofun⟩,hn.1,by show 0+n.1.toNat<=10; omega⟩) fun y hy=> .ret hy))
 rintro _ ⟨c,M,k,rfl,hc,hM,h0,hl⟩
 refine .br (fun hk=> ?_) fun _=> .ret ⟨c,rfl,hc,hM,by show M.configs.length<=10; omega⟩;have hk:k>0:=of_decide_eq_true hk;have hw:IntKind.wrap .i64 (k-1)=k-1:=eL (by omega) (by omega);refine .dn (Rl hc _) fun c2 g h2 hg=> .ip rfl (.bind (zX M hM g.1 ⟨by omega,by omega⟩) fun m hm=> .dn (jJ h2 _) fun c3 _ h3 _=> .ip rfl (.br (fun _=> .bind (CC m.1 hm.1 _) fun a ha=> .ret ⟨⟨c3,a.1,k-1,by dsimp only; rw[hw],h3,ha.1,by omega,by omega⟩,?_⟩) fun _=> .ret ⟨⟨c3,m.1,k-1,by dsimp only; rw[hw],h3,hm.1,by omega,by omega⟩,?_⟩))
 all_goals
  show (IntKind.wrap .i64 (k-1)).toNat<k.toNat;rw[hw];omega
theorem Tm {c:fV} (h:fE c):Dn (fun y:dY×Unit=>ri 1048576 y.1) (uQ [c]):=by unfold uQ;refine .bind (Tl h) fun c1 m h1 hm=> .iteP rfl (.bind (gi h1 _) fun c2 _ h2 _=> .iteP rfl (.br (fun _=> .bind (gC h2 (by simp)) fun c3 _ h3 _=> .iteP rfl (.ret h3 hm.1)) fun _=> .br (fun _=> .bind (NV h2) fun c3 g h3 hg=> .iteP rfl (.iteP ?_ (.ret h3 (Rm hm.1 (by omega) hg)))) fun _=> .ret h2 hm.1));show (m.1.configs++ [g.1]).length*64<=2 ^ 40;rw[az,ax];omega
omit [dQ] in
theorem NW (c:dU) (h:iR maxLen c) (hv:eB c=some (true,())):Tt (fun y=>0<y.1.length/\y.1.length<=10) (gA c):=by unfold gA;rw[hv,ae];refine .br (fun h=>by cases h) fun _=> ?_;obtain⟨a1,a2,a3,_⟩:=yb h hv;have l1:=a1.len;have l2:=a2.len;obtain⟨r,r1,_,r4,r5⟩:=Nx c.replicas c.witnesses (by omega) (by omega);rw[r1];exact .ret ⟨List.length_pos_of_mem ((r4 c.primary).2 (.inl a3)),by show r.length<=10; omega⟩
omit [dQ] in
theorem Tn (l:List eb) (e:Int) (hl:l.length<=1048576):Tt (fun y=>y.1.length<=1048576) (uR l e):=by
 unfold uR;refine .bind (.count (B:=tF) (E:=fun y=> ∃k:Nat,k<=l.length/\y=((l,(k:Int),()),(),())) l.length (fun k (_:Unit)=>((l,e,(k:Int),()),(),())) (fun _ _=>True) (fun _ _=> .end (aV _) (.ret ⟨l.length,aq _,rfl⟩)) (fun k _ hk _=> .go (aG.2 hk) (.ip (au k) (.get (tn hk) fun _ _ _=> .br (fun _=> .ret ⟨(),by rw[dV (eD hl) hk],trivial⟩) fun _=> .ret ⟨k,Nat.le_of_lt hk,rfl⟩))) () trivial) ?_
 rintro _ ⟨k,hk,rfl⟩
 have h2: ((l.drop (0:Int).toNat).take ((k:Int).toNat-(0:Int).toNat)).length<=1048576:=by rw[aY,bi];omega
 exact .ip ⟨bO _,au k,Int.ofNat_le.2 hk⟩ (.bind (Q:=fun y=>y.1.length<=1048576) ⟨_,yd h2,h2⟩ fun y hy=> .ret hy)
theorem PK {c:fV} (h:fE c):Dn (fun y:dT×Int×Unit=>gr 1048576 y.1) (pu [c]):=by
 unfold pu;refine .bind (gi h _) fun c1 _ h1 _=> .iteP rfl (.tt (Ku _) fun s hs=> .bind (l7 h1 (n:=3) (by omega)) fun c2 e h2 he=> .iteP rfl (.bind (Rl h2 _) fun c3 g h3 hg=> .iteP rfl ?_));have hw:IntKind.wrap .i64 (1+e.1)=1+e.1:=eL (by omega) (by omega);obtain⟨g0,g1,g2,g3⟩:=hg;have g3:=g3 (by rw[hw]; omega);have okc:iR 1048576 g.1:=⟨by omega,by omega⟩
 refine .tt (NW g.1 (eV okc) g3) fun m hm=> .bind (l7 h3 (n:=(m.1.length:Int)) (by omega)) fun c4 i h4 hi=> .iteP rfl (.iteP hi (.get (by show i.1.toNat<m.1.length; omega) fun z _=> .bind (jJ h4 _) fun c5 _ h5 _=> .iteP rfl ?_))
 have fin: ∀ (c6:fV) (t:dT),fE c6->gr 1048576 t-> ∀up:Bool,Dn (fun y:dT×Int×Unit=>gr 1048576 y.1) ((gg [c6] 4).bind fun y46=>iteP (y46.1.length=([c6]:List fV).length) (br y46.2.1 ((ed y46.1 3).bind fun y47=>iteP (y47.1.length=y46.1.length) ((jz (⟨up,t.intact,t.version,t.epoch,t.config,t.first,t.log,t.commit,t.learned⟩:dT) (IntKind.wrap .i64 (4+y47.2.1))).bind fun y48=>some (y47.1,y48.1,z,())) none) (some (y46.1,(⟨up,t.intact,t.version,t.epoch,t.config,t.first,t.log,t.commit,t.learned⟩:dT),z,()))) none):=fun c6 t h6 ht up=>.bind (jJ h6 _) fun c7 _ h7 _=> .iteP rfl (.br (fun _=> .bind (gi h7 _) fun c8 _ h8 _=> .iteP rfl (.tt (HI ⟨up,t.intact,t.version,t.epoch,t.config,t.first,t.log,t.commit,t.learned⟩ _ ht) fun u hu=> .ret h8 hu)) fun _=> .ret h7 ht)
 rw[dS];refine .br (fun _=> .bind (jJ h5 _) fun c6 _ h6 _=> .iteP rfl (.br (fun _=>fin c6 s.1 h6 hs _) fun _=>fin c6 s.1 h6 hs _)) fun _=> .bind (Nt h5) fun c6 l h6 hl=> .iteP rfl (.tt (Tn l.1 _ (by omega)) fun l2 hl2=> .tt (HJ s.1 g.1 z l2.1 hs okc hl2) fun t ht=> .bind (jJ h6 _) fun c7 _ h7 _=> .iteP rfl (.br (fun _=>fin c7 t.1 h7 ht _) fun _=>fin c7 t.1 h7 ht _))
theorem Lx {c:fV} (h:fE c):Dn (fun y:dT×Int×Unit=>gr 1048576 y.1) (uS [c]):=by unfold uS;refine .bind (PK h) fun c1 s h1 hs=> .iteP rfl (.bind (gi h1 _) fun c2 _ h2 _=> .iteP rfl ?_);refine .br (fun _=> .bind (gC h2 (by simp)) fun c3 _ h3 _=> .iteP rfl (.ret h3 hs)) fun _=> .br (fun _=> .bind (gC h2 (by simp)) fun c3 _ h3 _=> .iteP rfl (.ret h3 hs)) fun _=> .br (fun _=> .bind (NV h2) fun c3 g h3 hg=> .iteP rfl (.ret h3 ⟨hg,hs.2⟩)) fun _=> .br (fun _=> .bind (gC h2 (by simp)) fun c3 _ h3 _=> .iteP rfl (.ret h3 hs)) fun _=> .br (fun _=> .bind (gC h2 (by simp)) fun c3 _ h3 _=> .iteP rfl (.ret h3 hs)) fun _=> .br (fun _=> .bind (gi h2 _) fun c3 _ h3 _=> .iteP rfl (.ret h3 hs)) fun _=> .br (fun _=> .bind (Lo h2) fun c3 l h3 hl=> .iteP rfl (.ret h3 ⟨hs.1,by show l.1.length<=_; omega,hs.2.2⟩)) fun _=> .ret h2 hs
theorem NX {c:fV} (h:fE c):Dn (fun y:List Int×Unit=>y.1.length<=5) (uO [c]):=by
 unfold uO;refine .bind (Ns h) fun c1 l h1 hl=> .iteP rfl (.bind (gi h1 _) fun c2 _ h2 _=> .iteP rfl (.br (fun _=> ?_) fun _=> .br (fun _=> .bind (gC h2 (by simp)) fun c3 x h3 _=> .iteP rfl (.iteP ?_ (.get ?_ fun _ _=> .ret h3 ?_))) fun _=> .ret h2 (dB hl)))
 ·have hl:l.1.length=5:=hl;refine .iteP (by show (0:Int)<=1/\(1:Int)<=(l.1.length:Int)/\(l.1.length:Int)<=(l.1.length:Int); omega) ?_;rw[ek,if_neg (by intro h; exact absurd h.1 (by decide))];refine .iteP (by show 0+(1:Int).toNat+((l.1.length:Int).toNat-(1:Int).toNat)<=l.1.length; omega) (.ret h2 ?_);show ((l.1.drop (0+(1:Int).toNat)).take ((l.1.length:Int).toNat-(1:Int).toNat)).length<=5;rw[aY,bi];omega
 ·have hl:l.1.length=5:=hl;show (0:Int)<=1/\(1:Int)< (l.1.length:Int);omega
 ·have hl:l.1.length=5:=hl;show (1:Int).toNat<l.1.length;omega
 ·show (l.1.set _ _).length<=5;rw[bD];exact dB hl
theorem Ly {c:fV} (h:fE c):Dn (fun y:List eG×Unit=>y.1.length<=5) (xQ [c]):=by
 unfold xQ;refine .bind (Kt h) fun c1 l h1 hl=> .iteP rfl (.bind (gi h1 _) fun c2 _ h2 _=> .iteP rfl ?_);have hl:l.1.length=5:=hl.1;refine .br (fun _=> ?_) fun _=> .br (fun _=> .bind (gC h2 (by simp)) fun c3 x h3 _=> .iteP rfl (.iteP (by show (0:Int)<=0/\(0:Int)< (l.1.length:Int); omega) (.get (by show (0:Int).toNat<l.1.length; omega) fun _ _=> .ret h3 ?_))) fun _=> .br (fun _=> .bind (gC h2 (by simp)) fun c3 x h3 _=> .iteP rfl (.iteP (by show (0:Int)<=1/\(1:Int)< (l.1.length:Int); omega) (.get (by show (1:Int).toNat<l.1.length; omega) fun _ _=> .ret h3 ?_))) fun _=> .ret h2 (dB hl)
 ·refine .iteP (by show (0:Int)<=1/\(1:Int)<=(l.1.length:Int)/\(l.1.length:Int)<=(l.1.length:Int); omega) ?_;rw[ek,if_neg (by intro h; exact absurd h.1 (by decide))];refine .iteP (by show 0+(1:Int).toNat+((l.1.length:Int).toNat-(1:Int).toNat)<=l.1.length; omega) (.ret h2 ?_);show ((l.1.drop (0+(1:Int).toNat)).take ((l.1.length:Int).toNat-(1:Int).toNat)).length<=5;rw[aY,bi];omega
 ·show (l.1.set _ _).length<=5;rw[bD];omega
 ·show (l.1.set _ _).length<=5;rw[bD];omega
theorem NY {c:fV} (h:fE c):Dn (fun y:dR×Unit=>fO 1048576 y.1/\y.1.servers.length=5) (n8 [c]):=by unfold n8;refine .bind (Kt h) fun c1 l h1 hl=> .iteP rfl (.tt (Rk l.1 (by have:=hl.1; omega)) fun x hx=> .bind (Ln h1 (by omega) (by omega)) fun c2 e h2 he=> .iteP rfl (.tt (Jl x.1 hx.1 e.1 (by omega)) fun y hy=> .ret h2 ⟨hy.1.1,hy.1.2.trans (hx.2 hl.2)⟩))
theorem Jm {c:fV} (h:fE c):Dn (fun y:dR×Unit=>fO 1048576 y.1/\y.1.servers.length=5) (uT [c]):=by unfold uT;refine .bind (NY h) fun c1 x h1 hx=> .iteP rfl (.bind (gi h1 _) fun c2 _ h2 _=> .iteP rfl ?_);obtain⟨⟨x1,x2,x3,x4⟩,x5⟩:=hx;refine .br (fun _=> .bind (gC h2 (by simp)) fun c3 _ h3 _=> .iteP rfl (.ret h3 ⟨⟨x1,x2,x3,x4⟩,x5⟩)) fun _=> .br (fun _=> .bind (NX h2) fun c3 l h3 hl=> .iteP rfl (.ret h3 ⟨⟨x1,by show l.1.length<=_; omega,x3,x4⟩,x5⟩)) fun _=> .br (fun _=> .bind (Tm h2) fun c3 m h3 hm=> .iteP rfl (.ret h3 ⟨⟨x1,x2,hm,x4⟩,x5⟩)) fun _=> .br (fun _=> .bind (gC h2 (by simp)) fun c3 _ h3 _=> .iteP rfl (.ret h3 ⟨⟨x1,x2,x3,x4⟩,x5⟩)) fun _=> .br (fun _=> .bind (Hx h2) fun c3 _ h3 _=> .iteP rfl (.ret h3 ⟨⟨x1,x2,x3,x4⟩,x5⟩)) fun _=> .br (fun _=> .bind (Ly h2) fun c3 l h3 hl=> .iteP rfl (.ret h3 ⟨⟨x1,x2,x3,by show l.1.length<=_; omega⟩,x5⟩)) fun _=> .br (fun _=> .bind (Lx h2) fun c3 s h3 hs=> .iteP rfl (.bind (l7 h3 (n:=5) (by omega)) fun c4 i h4 hi=> .iteP rfl (.iteP (by show 0<=i.1/\i.1< (x.1.servers.length:Int); rw[x5]; exact hi) (.get (by show i.1.toNat<x.1.servers.length; omega) fun _ _=> .ret h4 ⟨⟨w4 x1 hs _,x2,x3,x4⟩,by show (x.1.servers.set _ _).length=5; rw[bD]; exact x5⟩)))) fun _=> .ret h2 ⟨⟨x1,x2,x3,x4⟩,x5⟩
omit [dQ] in
theorem Jn (x:dR) (ok:fO 1048576 x):Tt (fun y=>y.1.length<=1048576) (lE x):=by
 unfold lE;refine .bind (.count (B:=lY) (E:=fun e=>e.2.2.1.length<=1048576) x.servers.length (fun k (b:List Int)=>(((),(),(k:Int),()),(fx x,()),b,())) (fun k b=>b.length<=k) (fun b hb=> .end (aV _) (.ret (aL hb ok.1.1))) (fun k b hk hb=> ?_) [] (aq _)) fun y hy=> .ret hy;have:=ok.1.1;have sw:=dV (eD ok.1.1) hk;refine .go (aG.2 hk) (.bind (oS x ok) fun _ _=> .br (fun _=> .ip (au k) (.get (tn hk) fun s _ hs=> ?_)) fun _=> .ret (by show b.length<=_; omega));obtain⟨d,d1,_⟩:=lO s k (ok.1.2 s hs);rw[show fG _ _=_ from d1,ae];refine .br (fun _=> .ip ?_ (.ret ⟨b++ [(k:Int)],by rw[sw],?_⟩)) fun _=> .ret ⟨b,by rw[sw],cd hb⟩
 ·show (b++ [(k:Int)]).length*8<=2 ^ 40;rw[az,ax];omega
 ·rw[az,ax];omega
theorem Qf {x:Hd} {l:List Int} (h:nH x=some l) (hl:l.length<=maxLen) (hb: ∀m∈l,0<=m/\m<=255):Dn (fun y:dR×Int×Unit=>fO 1048576 y.1/\y.1.servers.length=5) (qn x):=by unfold qn;refine .bind (Nq h hl hb) fun c1 _ h1 _=> .bind (Jm h1) fun c2 x h2 hx=> .iteP rfl (.tt (Jn x.1 hx.1) fun p hp=> .bind (gi h2 _) fun c3 _ h3 _=> .iteP rfl (.br (fun hpos=> .bind (jJ h3 _) fun c4 _ h4 _=> .iteP rfl ?_) fun _=> .ret h3 hx));have hpos: (p.1.length:Int)>0:=of_decide_eq_true hpos;exact .br (fun _=> .bind (l7 h4 (n:=(p.1.length:Int)) (by omega)) fun c5 i h5 hi=> .iteP rfl (.iteP hi (.get (by show i.1.toNat<p.1.length; omega) fun _ _=> .ret h5 hx))) fun _=> .ret h4 hx
end
end Go.Proofs.YtlaicbcfjcplhaaGreat.En
namespace Go.Proofs.YtlaicbcfjcplhaaGreat.En
open Go
theorem Tt.tru {r:Option (Bool×Unit)} (h:Tt (fun y=>y.1=true) r):r=some (true,()):=by obtain⟨⟨b,_⟩,e,rfl⟩:=h;exact e
theorem Tt.is {α:Type} {Q:α->Prop} {r:Option α} {a:α} (h:Tt Q r) (e:r=some a):Q a:=by obtain⟨b,h1,h2⟩:=h;rw[e] at h1;cases h1;exact h2
theorem Rn (l:List Int) (hl:l.length<=maxLen):kA l l=some (true,()):=by
 refine Tt.tru ?_;unfold kA;rw[dS,beq_self_eq_true];refine .br (fun _=> .bind (.count (B:=jc) (E:=Sum.elim (fun _=>False) fun _=>True) l.length (fun k (_:Unit)=>((l,l,(l.length:Int),(k:Int),()),(),())) (fun _ _=>True) (fun _ _=> .end (aV _) (.ret trivial)) (fun k _ hk _=> .go (aG.2 hk) (.ip (au k) (.get (tn hk) fun x e _=> .ip (au k) (.get (tn hk) fun y e2 _=> ?_)))) () trivial) fun y hy=> ?_) (fun h=>by cases h)
 ·obtain rfl:x=y:=Option.some.inj ((show l[k]? =some x from e).symm.trans (show l[k]? =some y from e2));rw[beq_self_eq_true];exact .br (fun h=>by cases h) fun _=> .ret ⟨(),by rw[dV hl hk],trivial⟩
 ·cases y with
  |inl y=>exact hy.elim
  |inr y=>exact .ret rfl
theorem NZ (l:List eG) (hl:l.length<=maxLen):lL l l=some (true,()):=by
 refine Tt.tru ?_;unfold lL;rw[dS,beq_self_eq_true];refine .br (fun _=> .bind (.count (B:=l6) (E:=Sum.elim (fun _=>False) fun _=>True) l.length (fun k (_:Unit)=>((l,l,(l.length:Int),(k:Int),()),(),())) (fun _ _=>True) (fun _ _=> .end (aV _) (.ret trivial)) (fun k _ hk _=> .go (aG.2 hk) (.ip (au k) (.get (tn hk) fun x e _=> .ip (au k) (.get (tn hk) fun y e2 _=> ?_)))) () trivial) fun y hy=> ?_) (fun h=>by cases h)
 ·obtain rfl:x=y:=Option.some.inj ((show l[k]? =some x from e).symm.trans (show l[k]? =some y from e2));simp only[beq_self_eq_true,dv];exact .br (fun h=>by cases h) fun _=> .ret ⟨(),by rw[dV hl hk],trivial⟩
 ·cases y with
  |inl y=>exact hy.elim
  |inr y=>exact .ret rfl
theorem SA (s:dT) (h:gr 1048576 s):iG s s=some (true,()):=by unfold iG;simp only[beq_self_eq_true,eg,(gT s.config s.config (eV h.1)).2,Ny s.log s.log (eD h.2.1),Ny s.learned s.learned (eD h.2.2),decide_true,ae]
theorem To (m:dY) (h:ri 1048576 m):jH m m=some (true,()):=by
 have hl:=eD h.1;refine Tt.tru ?_;unfold jH fK;rw[beq_self_eq_true,dS,beq_self_eq_true];refine .br (fun _=> .bind (Q:=fun y=>y.1=true) (.br (fun _=> .bind (.count (B:=fA) (E:=Sum.elim (fun _=>False) fun _=>True) m.configs.length (fun k (_:Unit)=>((m.configs,(),m.configs,(m.configs.length:Int),(k:Int),()),(),())) (fun _ _=>True) (fun _ _=> .end (aV _) (.ret trivial)) (fun k _ hk _=> .go (aG.2 hk) (.ip (au k) (.get (tn hk) fun x e hx=> .ip (au k) (.get (tn hk) fun y e2 _=> ?_)))) () trivial) fun y hy=> ?_) (fun h=>by cases h)) fun y hy=> .ret hy) (fun h=>by cases h)
 ·obtain rfl:x=y:=Option.some.inj ((show m.configs[k]? =some x from e).symm.trans (show m.configs[k]? =some y from e2));rw[(gT x x (eV (h.2 x hx))).2,decide_eq_true rfl,ae];exact .br (fun h=>by cases h) fun _=> .ret ⟨(),by rw[dV hl hk],trivial⟩
 ·cases y with
  |inl y=>exact hy.elim
  |inr y=>exact .ret rfl
theorem SB (x:dR) (ok:fO 1048576 x):js x x=some (true,()):=by
 have hl:=eD ok.1.1;refine Tt.tru ?_;unfold js fi;simp only[beq_self_eq_true,dv,eg,Rn x.sides (eD ok.2.1),To x.master ok.2.2.1,NZ x.places (eD ok.2.2.2),ae];rw[dS];refine .bind (Q:=fun y=>y.1=true) (.br (fun _=> .bind (.count (B:=eZ) (E:=Sum.elim (fun _=>False) fun _=>True) x.servers.length (fun k (_:Unit)=>((x.servers,(),x.servers,(x.servers.length:Int),(k:Int),()),(),())) (fun _ _=>True) (fun _ _=> .end (aV _) (.ret trivial)) (fun k _ hk _=> .go (aG.2 hk) (.ip (au k) (.get (tn hk) fun s e hs=> .ip (au k) (.get (tn hk) fun t e2 _=> ?_)))) () trivial) fun y hy=> ?_) (fun h=>by cases h)) fun y hy=> .br (fun _=> .ret rfl) fun h=>by rw[h] at hy; cases hy
 ·obtain rfl:s=t:=Option.some.inj ((show x.servers[k]? =some s from e).symm.trans (show x.servers[k]? =some t from e2));rw[SA s (ok.1.2 s hs),ae];exact .br (fun h=>by cases h) fun _=> .ret ⟨(),by rw[dV hl hk],trivial⟩
 ·cases y with
  |inl y=>exact hy.elim
  |inr y=>exact .ret rfl
end Go.Proofs.YtlaicbcfjcplhaaGreat.En
namespace Go.Proofs.YtlaicbcfjcplhaaGreat.En
open Go
theorem HK (l:eK):Tt (fun y=>y.1=true->l=⟨0,0,0⟩\/((1<=l.epoch/\l.epoch<=20)/\(0<=l.holder/\l.holder<=4)/\1<=l.ends/\l.ends<=1049)) (iw l):=by unfold iw;simp only[gl,ae];refine .br (fun h=> .ret fun _=> .inl ?_) fun _=> .br (fun h1=> .br (fun h2=> .ret fun h3=> .inr ⟨ey.1 h1,ey.1 h2,ey.1 h3⟩) fun _=> .ret nofun) fun _=> .ret nofun;simp only[df,al,beq_iff_eq] at h;obtain⟨e,h,n⟩:=l;simp only at h;obtain⟨rfl,rfl,rfl⟩:=h;rfl
def Gr (l:eK) (e h n:Int) (g:eK):Prop:=g.epoch=e/\g.holder=h/\(1<=e/\e<=20)/\(0<=h/\h<=4)/\(0<=n/\n<=999)/\n<g.ends/\g.ends<=1049/\(l.epoch=e->l.holder=h->l.ends<=g.ends)
theorem N0 (l:eK) (e h n t:Int):Tt (fun y=>y.2.1=true->Gr l e h n y.1) (jy l e h n t):=by
 obtain⟨⟨b,_⟩,b1,b2⟩:=HK l;obtain⟨o,o1,_⟩:=rD l n;have no:Tt (fun y:eK×Bool×Unit=>y.2.1=true->Gr l e h n y.1) (some (l,false,())):= .ret nofun;unfold jy;simp only[b1,o1,gl,ae,dS];cases b with
 |false=>exact .br (fun _=>no) fun _=>no
 |true=>
  simp only[eg];have hl:=b2 rfl;cases h1:kj e 1 20<;>cases h2:kj h 0 4<;>cases h3:kj n 0 999<;>cases h4:kj t 1 50<;>simp only[eg,eS]<;>first |exact .br (fun _=>no) fun _=>no|skip
  have h1:=ey.1 h1;have h2:=ey.1 h2;have h3:=ey.1 h3;have h4:=ey.1 h4;rw[eL (n:=n+t) (by omega) (by omega)]
  have mine:l.epoch=e->Tt (fun y:eK×Bool×Unit=>y.2.1=true->Gr l e h n y.1) (some (⟨e,h,if l.ends>n+t then l.ends else n+t⟩,true,())):=fun he=> .ret fun _=>by
   have hr:1<=l.ends/\l.ends<=1049:=by
    rcases hl with rfl|hl
    ·simp only at he;omega
    ·exact hl.2.2
   show Gr l e h n ⟨e,h,if l.ends>n+t then l.ends else n+t⟩;split
   ·exact⟨rfl,rfl,h1,h2,h3,by show n<l.ends; omega,hr.2,fun _ _=>bO _⟩
   ·exact⟨rfl,rfl,h1,h2,h3,by show n<n+t; omega,by show n+t<=1049; omega,fun _ _=>by show l.ends<=n+t; omega⟩
  have other: (l.epoch=e->l.holder=h->False)->Tt (fun y:eK×Bool×Unit=>y.2.1=true->Gr l e h n y.1) (some (⟨e,h,n+t⟩,true,())):=fun hn=> .ret fun _=>⟨rfl,rfl,h1,h2,h3,by show n<n+t; omega,by show n+t<=1049; omega,fun a b=>(hn a b).elim⟩
  refine .br (fun he=> ?_) fun he=> ?_
  ·have he:l.epoch=e:=eq_of_beq he;refine .br (fun _=> .br (fun _=>mine he) fun hh=>other fun _ a=>ne_of_beq_false hh a) fun _=> .br (fun _=> .br (fun _=>mine he) fun hh=>other fun _ a=>ne_of_beq_false hh a) fun _=>no
  ·have he:l.epoch≠e:=ne_of_beq_false he;exact .br (fun _=>other fun a _=>he a) fun _=>no
theorem Rp (x:dR) (ok:fO 1048576 x) (id t:Int):Tt (fun y=>y.2.1=0->y.1.lease.holder=id/\y.1.lease.epoch=y.1.master.activated/\(y.1.lease.epoch=x.lease.epoch->y.1.lease.holder=x.lease.holder->x.lease.ends<=y.1.lease.ends)) (gM x id t):=by
 obtain⟨n,n1,n2⟩:=CB x ok id;unfold gM;rw[(ir x ok).1,ae,n1,ae,dS];refine .br (fun e=> ?_) fun e=> .ret fun h=>absurd h (ne_of_beq_false e);obtain⟨hv,h0,h5⟩:=n2 (eq_of_beq e);have vc:=iK ok hv;have s5:=mC (eD ok.2.1) vc.sides;refine .srv ok vc ⟨h0,h5⟩ fun s s1 s2 _=> ?_;obtain⟨b,b1,_⟩:=lO s id s2;rw[b1,ae,dS];refine .br (fun hb=> .br (fun _=> .ret nofun) fun _=> .ip h0 (.get (by omega) fun _ _ _=> ?_)) fun _=> .ret nofun;rw[dS];refine .br (fun _=> ?_) fun _=> .ret nofun;rw[dS];refine .br (fun he=> .bind (N0 x.lease s.config.epoch id x.now t) fun g hg=> ?_) fun _=> .ret nofun;have he:s.config.epoch=(x.master.configs.length:Int):=eq_of_beq he;rw[dS];refine .br (fun hb2=> .ret fun _=> ?_) fun _=> .ret nofun;obtain⟨g1,g2,g3,_,_,_,_,g8⟩:=hg hb2;have hlt:id.toNat<x.servers.length:=by rw[vc.len]; omega
 have sv:=Qa ok hv id.toNat hlt;have es:x.servers[id.toNat] =s:=by rw[ah hlt] at s1; exact Option.some.inj s1
 rw[es] at sv
 have ea:s.config.epoch=x.master.activated:=by
  obtain⟨_,_,f3⟩:=AE (kh ok.2.2.1) vc.ml;rcases sv.cfg with h| ⟨_,h⟩
  ·rw[h] at g3;simp only at g3;omega
  ·omega
 exact⟨g2,g1.trans ea,fun a b=>g8 (a.symm.trans g1) (b.symm.trans g2)⟩
theorem D6 {l:eK} (h:iw l=some (true,())):l=⟨0,0,0⟩\/1<=l.ends:=((HK l).is h rfl).imp id fun h=>h.2.2.1
theorem N1 (x:dR) (ok:fO 1048576 x) (id:Int): ∃y n,lN x id=some (y,n,())/\lM x id=some (y,n,())/\fO 1048576 y:=by
 obtain⟨v,v1,v2⟩:=ik x ok;unfold lN lM jw sR gq kZ;simp only[(ir x ok).1,(ir x ok).2,v1,v2,gl,pz,ae,dS];have dn: ∀n:Int,∃y k,some (x,n,())=some (y,k,())/\some (x,n,())=some (y,k,())/\fO 1048576 y:=fun n=>⟨x,n,rfl,rfl,ok⟩
 cases v with
 |false=>exact dn 1
 |true=>
  simp only[eg];cases hw:kj id 0 4 with
  |false=>exact dn 1
  |true=>
   have hw:=ey.1 hw;have hid:0<=id/\id<5:=by omega
   have vc:=iK ok v1;obtain⟨s,s1,s2,_⟩:=zW ok vc hid;have hup:=vc.up;have w1:IntKind.wrap .i64 (x.masterUp*2)=x.masterUp*2:=eL (by omega) (by omega);have w2:IntKind.wrap .i64 (2*x.masterUp)=x.masterUp*2:=by rw[eL (by omega) (by omega),dE]
   have hsl:=mC (eD ok.2.1) vc.sides;have g1:x.sides[id.toNat]? =some (x.sides[id.toNat]'(by omega)):=ah (by omega);simp only[eg,ek,if_pos hid.1,s1,ae];cases s.up with
   |false=>exact dn 2
   |true=>
    simp only[eg,pJ,if_true,ae,w1,w2,ef,g1];rcases D6 vc.lease with hl|hl
    ·simp only[hl,if_true,beq_self_eq_true,dv,eg];exact dn 7
    ·rw[if_neg (by omega),show (x.lease.ends==0)=false from beq_eq_false_iff_ne.2 (by omega)];simp only[dh,cK,eS];by_cases h2:x.lease.holder=id
     case neg=>simp only[if_neg h2]; exact dn 7
     simp only[if_pos h2];by_cases h3: (x.sides[id.toNat]'(by omega))=0
     case neg=>simp only[if_neg h3]; exact dn 7
     simp only[if_pos h3];by_cases h4:x.masterUp*2<=3
     ·simp only[if_pos h4,if_neg (show ¬x.masterUp*2>3 by omega)];exact dn 7
     ·simp only[if_neg h4,if_pos (show x.masterUp*2>3 by omega)];exact⟨_,_,rfl,rfl,ok⟩
theorem Rq (l:eK) (e h n:Int):vQ (jx l e h n) (jI l e h n):=by
 obtain⟨b,b1,b2⟩:=rB l;unfold jx jI;simp only[b1,b2,gl,pz,ae,dS];cases b with
 |false=>exact⟨_,rfl,rfl⟩
 |true=>
  simp only[eg,ef,pJ];rcases D6 b1 with hl|hl
  ·simp only[hl,beq_self_eq_true,dv,eg,if_neg (show ¬ (0:Int)>0 by omega)];cases kj n 0 999<;>exact⟨_,rfl,rfl⟩
  ·rw[show (l.ends==0)=false from beq_eq_false_iff_ne.2 (by omega)];simp only[dh,cK,eS,if_pos (show l.ends>0 by omega)];cases kj n 0 999<;>by_cases h1:l.epoch=e<;>by_cases h2:l.holder=h<;>simp only[h1,h2,if_true,if_false,eg,eS]<;>exact⟨_,rfl,rfl⟩
theorem Gr.ok {l g:eK} {e h n:Int} (hg:Gr l e h n g):ig g=some (true,())/\gD g n=some (false,())/\jI g e h n=some (decide (n+3<g.ends),()):=by
 obtain⟨rfl,rfl,h1,h2,h3,h4,h5,_⟩:=hg;have hz: (g.ends==0)=false:=beq_eq_false_iff_ne.2 (by omega)
 have il:ig g=some (true,()):=by unfold ig;simp only[hz,dh,cK,eS,pz,ey.2 h1,ey.2 h2,ey.2 (show 1<=g.ends/\g.ends<=1049 by omega),ae,eg]
 refine⟨il,?_,?_⟩
 ·unfold gD na;simp only[il,pz,ey.2 h3,ae,eg,dS,hz,dh,cK,eS,pJ,ef];rw[eL (n:=g.ends+3) (by omega) (by omega)];simp only[show ¬g.ends=0 by omega,if_false,ae,decide_eq_false (show ¬n≥g.ends+3 by omega)]
 ·unfold jI;simp only[il,pz,ey.2 h3,ae,eg,dS,hz,dh,cK,eS,pJ,if_true];rw[eL (n:=n+3) (by omega) (by omega)]
section
variable [dQ]
theorem Lz {x:Hd} {l:List Int} (h:nH x=some l) (hl:l.length<=maxLen) (hb: ∀m∈l,0<=m/\m<=255):Tt (fun y=>fO 1048576 y.1) (j6 x):=by unfold j6;exact .dn (Qf h hl hb) fun c y hc hy=> .dn (gC hc (by simp)) fun c2 _ _ _=> .ip rfl (.ret hy.1)
theorem HL {x:Hd} {l:List Int} (h:nH x=some l) (hl:l.length<=maxLen) (hb: ∀m∈l,0<=m/\m<=255):Tt (fun y=>fO 1048576 y.1) (jd x):=by unfold jd;exact .dn (Qf h hl hb) fun c y hc hy=> .ret hy.1
theorem LA {x:Hd} {l:List Int} (h:nH x=some l) (hl:l.length<=maxLen) (hb: ∀m∈l,0<=m/\m<=255):Tt T1 (kg x):=by unfold kg;exact .dn (Nq h hl hb) fun c1 _ h1 _=> .dn (Hx h1) fun c2 _ h2 _=> .ip rfl (.dn (gC h2 (by simp)) fun c3 _ h3 _=> .ip rfl (.dn (gC h3 (by simp)) fun c4 _ h4 _=> .ip rfl (.dn (Q4 h4) fun c5 _ h5 _=> .ip rfl (.dn (gC h5 (by simp)) fun c6 _ h6 _=> .ip rfl (.ret trivial)))))
theorem Jo (x:Hd) (l:List Int) (h:nH x=some l) (hl:l.length<=maxLen) (hb: ∀m∈l,0<=m/\m<=255):tH x=some (true,()):=by
 refine Tt.tru ?_;unfold tH;refine .bind (Q:=T1) (by unfold Nb; exact .ret trivial) fun _ _=> .br (fun _=> .ret rfl) fun _=> .bind (Lz h hl hb) fun a ha=> ?_;obtain⟨y,n,s1,i1,oky,_⟩:=Je a.1 ha a.2.1 a.2.2.1;have hf:=(Rp a.1 ha a.2.1 a.2.2.1).is s1;rw[i1,s1,ae,ae,dS,beq_self_eq_true];refine .br (fun _=> ?_) (fun h=>by cases h);rw[SB y oky,ae,dS];refine .br (fun _=> ?_) (fun h=>by cases h)
 extract_lets j22
 have h22:Tt (fun y=>y.1=true) j22:=by unfold j22;refine .bind (HL h hl hb) fun b hb2=> ?_;obtain⟨z,m,s2,i2,okz⟩:=N1 b.1 hb2 b.2.1;rw[i2,s2,ae,ae,dS,beq_self_eq_true];refine .br (fun _=> ?_) (fun h=>by cases h);rw[SB z okz,ae,dS];refine .br (fun _=> .bind (LA h hl hb) fun d _=> ?_) (fun h=>by cases h);obtain⟨g,gb,s3,i3⟩:=wZ d.1 d.2.1 d.2.2.1 d.2.2.2.1 d.2.2.2.2.1;have hg:=(N0 d.1 d.2.1 d.2.2.1 d.2.2.2.1 d.2.2.2.2.1).is s3;rw[i3,s3,ae,ae,dS,beq_self_eq_true];refine .br (fun _=> ?_) (fun h=>by cases h);simp only[beq_self_eq_true,dv,dS];refine .br (fun _=> ?_) (fun h=>by cases h);obtain⟨o,o1,o2⟩:=rD d.1 d.2.2.2.1;obtain⟨t,t1,t2⟩:=Cz d.1;obtain⟨u,u1,u2⟩:=Rq d.1 d.2.1 d.2.2.1 d.2.2.2.1;simp only[o1,o2,t1,t2,u1,u2,ae,beq_self_eq_true,eg];refine .br (fun e=> ?_) fun _=> .ret rfl;obtain⟨q1,q2,q3⟩:=(hg e).ok;have hn:=(hg e).2.2.2.2.1;rw[eL (n:=d.2.2.2.1+3) (by omega) (by omega)];simp only[q1,q2,q3,ae,eg,eS,beq_self_eq_true];exact .ret rfl
 refine .br (fun h0=> ?_) fun _=>h22;obtain⟨f1,f2,f3⟩:=hf (eq_of_beq h0);simp only[dS,beq_iff_eq.2 f1,beq_iff_eq.2 f2,eg];refine .br (fun e1=> .br (fun e2=> .br (fun e3=> ?_) fun _=>h22) fun _=>h22) fun _=>h22;have h8:a.1.lease.ends<=y.lease.ends:=f3 (eq_of_beq e1) (eq_of_beq e2);have e3:y.lease.ends<a.1.lease.ends:=of_decide_eq_true e3;omega
end
end Go.Proofs.YtlaicbcfjcplhaaGreat.En
