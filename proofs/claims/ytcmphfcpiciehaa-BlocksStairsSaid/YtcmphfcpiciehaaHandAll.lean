/- What the printed texts lean on. -/
import Derived.Test.YtcmphfcpiciehaaHandLib
import Derived.Test.YtcmphfcpiciehaaHandGrow
import Derived.Test.YtcmphfcpiciehaaHandTurned
