/- The law TtyLines, as the printed row asks it: proved in YtgcmhfoegbaaiaaMyTtyE3. -/
import Derived.Test.YtgcmhfoegbaaiaaMyTtyE3
