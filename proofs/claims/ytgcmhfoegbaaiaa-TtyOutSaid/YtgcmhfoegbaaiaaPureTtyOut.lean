/- The law TtyOut, as the printed row asks it: proved in YtgcmhfoegbaaiaaMyTtyE2. -/
import Derived.Test.YtgcmhfoegbaaiaaMyTtyE2
